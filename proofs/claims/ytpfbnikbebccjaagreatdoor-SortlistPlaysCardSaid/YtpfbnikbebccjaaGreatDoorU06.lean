import Derived.Test.YtpfbnikbebccjaaGreatDoorU00
import Derived.Test.YtpfbnikbebccjaaGreatDoorU01
import Derived.Test.YtpfbnikbebccjaaGreatDoorU02
import Derived.Test.YtpfbnikbebccjaaGreatDoorU05
import Derived.Test.YtpfbnikbebccjaaGreatDoorProg
import Derived.Outline
import Derived.RegionTactic
import Derived.BigRegion
import Derived.Deep.Light
import Derived.Deep.QuietTactic
import Derived.BigQuiet
set_option maxRecDepth 100000
set_option maxHeartbeats 51200000
namespace Go.Proofs.YtpfbnikbebccjaaGreatDoor
open Option renaming none->N,some->Z
open Value renaming int->I,slice->H
open IntKind renaming i64->J
open Go.Proofs.Tryz
section
open Go.RowKit
def dE(ms:List Mp):Prop:=∀i,(hi:i<ms.length)->Hg.kind ms[i].frm=0
structure jM(ms:List Mp)(cyc lng:Bool):Prop where
 cy:cyc=true->∃x,cM (onM ms true) x x
 ends:cyc=false->∀i,(hi:i<ms.length)->∃v,Sz (onM ms true) aH ms[i].frm v
 lg:cyc=false->(lng=true ↔ ∃i,∃hi:i<ms.length,∃v,Sz (onM ms true) aH ms[i].frm v/\mxE<v)
theorem gK{ms:List Mp}{i:Nat}(hi:i<ms.length):jT ms i=ms[i].frm:=by simp[jT,List.getD,hi]
theorem kW{ms:List Mp}{i:Nat}(hi:i<ms.length):toM ms i=ms[i].to:=by simp[toM,List.getD,hi]
theorem mK{ms:List Mp}(hs:StF ms)(hh:dE ms)(compat:Bool){i:Nat}(hi:i<ms.length):onM ms compat ms[i].frm=if compat=true\/ms[i].tag.size=0 then Z ms[i].to else N:=by
 unfold onM;rw[if_neg (by rw[hh i hi];omega),o_ hs hi rfl];split
 ·rw[Option.map_some,kW hi]
 rfl
theorem zR{ms:List Mp}(hh:dE ms)(compat:Bool){e:Int}(h1:1<=Hg.kind e)(h2:Hg.kind e<4):onM ms compat e=N:=by
 unfold onM;rw[if_neg (by omega),xO,Option.map_none];intro i hi he;have:=hh i hi;rw[he]at this;omega
theorem IU(n:Nat)(h:(n:Int)<=aH):dF aH (List.replicate n 1)=n:=by
 rw[rO (fun v hv=>by rw[List.eq_of_mem_replicate hv];omega) (by unfold aH;omega)];have:∀n:Nat,(List.replicate n (1:Int)).sum=n:=by
  intro n;induction n with
  |zero=>rfl
  |succ n ih=>rw[List.replicate_succ,List.sum_cons,ih];omega
 rw[this];omega
theorem rI{ms:List Mp}(hh:dE ms)(compat:Bool){e:Int}(h:aB ms compat e=N):Sz (onM ms compat) aH e (dlM e):=by
 by_cases h4:4<=Hg.kind e
 ·obtain⟨d1,d2⟩:=lJ h4
  have hon:onM ms compat e=Z (Hg.decomp e):=if_pos h4;have hne:Hg.decomp e≠[]:=by
   have h5:=(Hg.kind_range e).2;by_cases h44:Hg.kind e=4
   ·rw[oS h44];simp
   rw[oT (by omega)];simp
  have:=Sz.node (on:=onM ms compat) (cap:=aH) (vs:=List.replicate (Hg.decomp e).length 1) hon hne (by simp) (fun i h1 h2=>by
   rw[List.getElem_replicate]
   obtain⟨_,g2,g3⟩:=d2 _ (List.getElem_mem h1)
   refine .leaf (.inl (zR hh compat g3 ?_))
   unfold hk at g2
   split at g2
   ·cases g2
   ·omega)
  rw[IU _ (by unfold aH;omega)]at this;exact this
 have hd:dlM e=1:=by unfold dlM;rw[lK (by omega)];rfl
 rw[hd];refine .leaf (.inl ?_);unfold onM;rw[if_neg h4,h];rfl
theorem zA{ms:List Mp}(hs:StF ms)(hh:dE ms)(compat:Bool):uS ms.length (jT ms) (toM ms) (aB ms compat) dlM aH (onM ms compat) (aV ms compat):=by
 refine⟨by unfold aH;omega,fun i hi hk=>?_,fun i hi hk=>?_,fun e m h=>?_,fun e h=>rI hh compat h⟩
 ·rw[gK hi,mK hs hh compat hi,kW hi,if_pos]
  unfold aV at hk;cases compat<;>simp_all [List.getD]
 ·rw[gK hi,mK hs hh compat hi,if_neg]
  unfold aV at hk;cases compat<;>simp_all [List.getD]
 obtain⟨hi,h1,_⟩:=gR h;exact⟨hi,by rw[gK hi];exact h1⟩
theorem RA{ms:List Mp}(hh:dE ms){c v:Int}(h:Sz (onM ms true) aH c v)(hv:mxE<v):∃i,∃hi:i<ms.length,ms[i].frm=c:=by
 cases hf:aB ms true c with
 |some i=>obtain⟨hi,h1,_⟩:=gR hf;exact⟨i,hi,h1⟩
 |none=>
  have h1:=h.func (rI hh true hf);subst h1;exfalso;unfold dlM mxE at hv;by_cases h4:4<=Hg.kind c
  ·have:=(lJ h4).1;omega
  rw[lK (by omega)]at hv;simp at hv
theorem jM.of{ms:List Mp}{mk:Int->Option Int}{cyc lng:Bool}(hs:StF ms)(hh:dE ms)(h:fK (onM ms true) aH mxE mk cyc lng)(hf:∀x,mk x≠Z (-1))(hm:∀i,(hi:i<ms.length)->ms[i].to≠[]->∃k,mk ms[i].frm=Z k):jM ms cyc lng:=by
 have hon:=fun i(hi:i<ms.length)=>(mK hs hh true hi).trans (if_pos (.inl rfl))
 have hsz:cyc=false->∀i,(hi:i<ms.length)->∃v,Sz (onM ms true) aH ms[i].frm v/\(mk ms[i].frm=Z v\/v=1):=fun hc i hi=>by
  by_cases ht:ms[i].to=[]
  ·exact⟨1,.leaf (.inr (by rw[hon i hi,ht])),.inr rfl⟩
  obtain⟨k,hk⟩:=hm i hi ht;exact⟨k,h.fin hc _ k hk (fun e=>hf _ (by rw[hk,e])),.inl hk⟩
 refine⟨h.cy,fun hc i hi=>?_,fun hc=>⟨fun hl=>?_,?_⟩⟩
 ·obtain⟨v,h1,_⟩:=hsz hc i hi;exact⟨v,h1⟩
 ·obtain⟨c,k,h1,h2⟩:=h.lg1 hl
  have h3:=h.fin hc c k h1 (by unfold mxE at h2;omega);obtain⟨i,hi,he⟩:=RA hh h3 h2;subst he;exact⟨i,hi,k,h3,h2⟩
 rintro⟨i,hi,v,h1,h2⟩;obtain⟨v',g1,g2⟩:=hsz hc i hi;have:=h1.func g1;subst this;rcases g2 with g2|g2
 ·exact h.lg2 _ v g2 h2
 unfold mxE at h2;omega
theorem GH{ms:List Mp}(hs:StF ms){c v:Int}(h:Sz (onM ms true) aH c v):∃u,Sz (onM ms false) aH c u/\u<=v:=by
 have hsub:∀c to,onM ms false c=Z to->onM ms true c=Z to:=fun c to h=>by
  unfold onM at h|-;split
  ·next h4=>rw[if_pos h4]at h;exact h
  next h4=>
  rw[if_neg h4]at h;cases hf:aB ms false c with
  |none=>rw[hf]at h;cases h
  |some i=>
   obtain⟨hi,h1,_⟩:=gR hf;rw[hf]at h;rw[o_ hs hi h1,if_pos (.inl rfl)];exact h
 have hcap:(1:Int)<=aH:=by unfold aH;omega
 induction h with
 | @leaf c h=>
  refine⟨1,.leaf ?_,by omega⟩;cases hf:onM ms false c with
  |none=>exact .inl rfl
  |some to=>
   right;rcases h with h|h
   ·rw[hsub c to hf]at h;cases h
   rw[hsub c to hf]at h;exact h
 | @node c to vs h1 h2 h3 h4 ih=>
  cases hf:onM ms false c with
  |none=>exact⟨1,.leaf (.inl hf),(Sz.bd hcap (Sz.node h1 h2 h3 h4)).1⟩
  |some to'=>
   have:=hsub c to' hf;rw[h1]at this;injection this with this;subst this
   have hch:∀i:Nat,∃u:Int,∀(hi:i<to.length)(hv:i<vs.length),Sz (onM ms false) aH to[i] u/\u<=vs[i]:=fun i=>by
    by_cases hi:i<to.length
    ·obtain⟨u,g1,g2⟩:=ih i hi (by omega)
     exact⟨u,fun _ _=>⟨g1,g2⟩⟩
    exact⟨0,fun h=>absurd h hi⟩
   refine⟨dF aH ((List.range to.length).map (fun i=>(hch i).choose)),.node hf h2 (by simp) (fun i h1 h2=>?_),?_⟩
   ·simp only[List.getElem_map,List.getElem_range]
    exact((hch i).choose_spec h1 (by omega)).1
   have hmono:∀(a b:Li),a.length=b.length->(∀i,(h1:i<a.length)->(h2:i<b.length)->a[i]<=b[i])->∀s t:Int,s<=t->a.foldl (fun s v=>min (s+v) aH) s<=b.foldl (fun s v=>min (s+v) aH) t:=by
    intro a;induction a with
    |nil=>intro b hl _ s t hst;cases b with|nil=>exact hst|cons _ _=>simp at hl
    |cons x a iha=>
     intro b hl hle s t hst;cases b with
     |nil=>simp at hl
     |cons y b=>
      have h0:=hle 0 (by simp) (by simp);simp only[List.getElem_cons_zero]at h0;refine iha b (by simpa using hl) (fun i g1 g2=>?_) _ _ (by dsimp only;omega);have:=hle (i+1) (by simp;omega) (by simp;omega);simpa using this
   refine hmono _ _ (by simp[h3]) (fun i g1 g2=>?_) 0 0 (by omega);simp only[List.getElem_map,List.getElem_range];simp at g1;exact((hch i).choose_spec g1 g2).2
end
section
open Go.RowKit Go.Maps Go.WideMaps
theorem yY(W:Wv)(a:Addr)(x:Bool)(h:W.cell? a=Z (.bool x)):(loadVar 4 a).run prog W=.ok (.bool x) W:=by
 have hu:=underlying4;simp only[loadVar,isAgg,Sem.run_bind,run_underlying hu,Result.andThen_ok,Sem.run_pure];simp[run_load,h]
theorem XC{fn:Func}{p q:Tmp}{t u:TypeId}(h:fn.results=#[.cell p t,.cell q u])(tmps:Array Value)(P:Program)(w:Wv){a b:Addr}{x y:Value}(ha:tmps.getD p undef=.pointer (Z a))(hb:tmps.getD q undef=.pointer (Z b))
  (hx:(loadVar t a).run P w=.ok x w) (hy:(loadVar u b).run P w=.ok y w):(results fn tmps).run P w=.ok (.tuple #[x,y]) w:=by
 rw[Array.getD_eq_getD_getElem?]at ha hb;simp only[results,h];simp[Sem.run_bind,Result.andThen,ha,hb,asAddr,hx,hy]
theorem EV(on:Int->Option (Li))(cap mx:Int):fK on cap mx (fun _=>N) false false:=⟨fun _ _ h=>(by cases h),fun _ _ _ h=>(by cases h),fun h=>(by cases h),fun h=>(by cases h),fun _ _ h=>(by cases h),fun _ _ h=>(by cases h)⟩
def FK(ms:List Mp)(w:Wv)(e:Ending)(w':Wv):Prop:=∃cyc lng,e=.returned (.tuple #[.bool cyc,.bool lng])/\jM ms cyc lng/\By w w'
theorem DQ(fs:Li)(mk:Int->Option Int):unmarked fs mk<=fs.length:=List.length_filter_le _ _
theorem E_(A0:Oa)(n0 k0:Nat)(A1:Oa)(n1 k1:Nat)(A2:Oa)(n2 k2:Nat)(w:Wv):MS A0 n0 k0 A1 n1 k1 A2 n2 k2 w.heap.size (((((((w).alloc (.cells #[H A0 n0 k0,H A1 n1 k1,H A2 n2 k2] 28)).alloc (.cells #[.bool false] 4)).alloc (.cells #[.bool false] 4)).alloc (.map #[] 0)).alloc (.cells #[.map (Z (w.heap.size+1+1+1))] 160)).alloc (.cells #[.func (.func 105) #[] #[.pointer (Z ⟨w.heap.size,0,N⟩),.pointer (Z ⟨w.heap.size+1+1+1+1,0,N⟩),.pointer (Z ⟨w.heap.size+1,0,N⟩),.pointer (Z ⟨w.heap.size+1+1+1+1+1,0,N⟩),.pointer (Z ⟨w.heap.size+1+1,0,N⟩)]] 65)) 0 (fun _=>N) false false/\By w (((((((w).alloc (.cells #[H A0 n0 k0,H A1 n1 k1,H A2 n2 k2] 28)).alloc (.cells #[.bool false] 4)).alloc (.cells #[.bool false] 4)).alloc (.map #[] 0)).alloc (.cells #[.map (Z (w.heap.size+1+1+1))] 160)).alloc (.cells #[.func (.func 105) #[] #[.pointer (Z ⟨w.heap.size,0,N⟩),.pointer (Z ⟨w.heap.size+1+1+1+1,0,N⟩),.pointer (Z ⟨w.heap.size+1,0,N⟩),.pointer (Z ⟨w.heap.size+1+1+1+1+1,0,N⟩),.pointer (Z ⟨w.heap.size+1+1,0,N⟩)]] 65)):=by
 have h1:Box ((w).alloc (.cells #[H A0 n0 k0,H A1 n1 k1,H A2 n2 k2] 28)) w.heap.size 28 [H A0 n0 k0,H A1 n1 k1,H A2 n2 k2]:=Box.new _ _ _ rfl;have h2:Box (((w).alloc (.cells #[H A0 n0 k0,H A1 n1 k1,H A2 n2 k2] 28)).alloc (.cells #[.bool false] 4)) (w.heap.size+1) 4 [.bool false]:=Box.new _ _ _ (by simp);have h3:Box ((((w).alloc (.cells #[H A0 n0 k0,H A1 n1 k1,H A2 n2 k2] 28)).alloc (.cells #[.bool false] 4)).alloc (.cells #[.bool false] 4)) (w.heap.size+2) 4 [.bool false]:=Box.new _ _ _ (by simp);have h4:hZ (((((w).alloc (.cells #[H A0 n0 k0,H A1 n1 k1,H A2 n2 k2] 28)).alloc (.cells #[.bool false] 4)).alloc (.cells #[.bool false] 4)).alloc (.map #[] 0)) (w.heap.size+3) 0 (fun _=>N):=by
  have:=aT.made prog 3 iN iok ((((w).alloc (.cells #[H A0 n0 k0,H A1 n1 k1,H A2 n2 k2] 28)).alloc (.cells #[.bool false] 4)).alloc (.cells #[.bool false] 4));simpa using this
 have h5:Box ((((((w).alloc (.cells #[H A0 n0 k0,H A1 n1 k1,H A2 n2 k2] 28)).alloc (.cells #[.bool false] 4)).alloc (.cells #[.bool false] 4)).alloc (.map #[] 0)).alloc (.cells #[.map (Z (w.heap.size+1+1+1))] 160)) (w.heap.size+4) 160 [.map (Z (w.heap.size+1+1+1))]:=Box.new _ _ _ (by simp);have h6:Box (((((((w).alloc (.cells #[H A0 n0 k0,H A1 n1 k1,H A2 n2 k2] 28)).alloc (.cells #[.bool false] 4)).alloc (.cells #[.bool false] 4)).alloc (.map #[] 0)).alloc (.cells #[.map (Z (w.heap.size+1+1+1))] 160)).alloc (.cells #[.func (.func 105) #[] #[.pointer (Z ⟨w.heap.size,0,N⟩),.pointer (Z ⟨w.heap.size+1+1+1+1,0,N⟩),.pointer (Z ⟨w.heap.size+1,0,N⟩),.pointer (Z ⟨w.heap.size+1+1+1+1+1,0,N⟩),.pointer (Z ⟨w.heap.size+1+1,0,N⟩)]] 65)) (w.heap.size+5) 65 [.func (.func 105) #[] #[.pointer (Z ⟨w.heap.size,0,N⟩),.pointer (Z ⟨w.heap.size+1+1+1+1,0,N⟩),.pointer (Z ⟨w.heap.size+1,0,N⟩),.pointer (Z ⟨w.heap.size+1+1+1+1+1,0,N⟩),.pointer (Z ⟨w.heap.size+1+1,0,N⟩)]]:=Box.new _ _ _ (by simp);have al:∀(W:Wv)(o:Obj),By W (W.alloc o):=fun W o=>ba _ _
 have b2:=al ((w).alloc (.cells #[H A0 n0 k0,H A1 n1 k1,H A2 n2 k2] 28)) (.cells #[.bool false] 4);have b3:=al (((w).alloc (.cells #[H A0 n0 k0,H A1 n1 k1,H A2 n2 k2] 28)).alloc (.cells #[.bool false] 4)) (.cells #[.bool false] 4);have b4:=al ((((w).alloc (.cells #[H A0 n0 k0,H A1 n1 k1,H A2 n2 k2] 28)).alloc (.cells #[.bool false] 4)).alloc (.cells #[.bool false] 4)) (.map #[] 0);have b5:=al (((((w).alloc (.cells #[H A0 n0 k0,H A1 n1 k1,H A2 n2 k2] 28)).alloc (.cells #[.bool false] 4)).alloc (.cells #[.bool false] 4)).alloc (.map #[] 0)) (.cells #[.map (Z (w.heap.size+1+1+1))] 160);have b6:=al ((((((w).alloc (.cells #[H A0 n0 k0,H A1 n1 k1,H A2 n2 k2] 28)).alloc (.cells #[.bool false] 4)).alloc (.cells #[.bool false] 4)).alloc (.map #[] 0)).alloc (.cells #[.map (Z (w.heap.size+1+1+1))] 160)) (.cells #[.func (.func 105) #[] #[.pointer (Z ⟨w.heap.size,0,N⟩),.pointer (Z ⟨w.heap.size+1+1+1+1,0,N⟩),.pointer (Z ⟨w.heap.size+1,0,N⟩),.pointer (Z ⟨w.heap.size+1+1+1+1+1,0,N⟩),.pointer (Z ⟨w.heap.size+1+1,0,N⟩)]] 65);refine⟨⟨?_,?_,?_,?_,?_,?_⟩,?_⟩
 ·exact((((h1.below b2 h1.lt).below b3 (h1.below b2 h1.lt).lt).below b4 (by simp<;>omega)).below b5 (by simp<;>omega)).below b6 (by simp<;>omega)
 ·exact(((h2.below b3 h2.lt).below b4 (by simp<;>omega)).below b5 (by simp<;>omega)).below b6 (by simp<;>omega)
 ·exact((h3.below b4 h3.lt).below b5 (by simp<;>omega)).below b6 (by simp<;>omega)
 ·exact(h4.below b5).below b6
 ·exact h5.below b6 h5.lt
 ·exact h6
 exact(((((ba _ _).alloc (by simp) _).alloc (by simp<;>omega) _).alloc (by simp<;>omega) _).alloc (by simp<;>omega) _).alloc (by simp<;>omega) _
theorem R_(A0:Oa)(n0 k0:Nat)(A1:Oa)(n1 k1:Nat)(A2:Oa)(n2 k2:Nat)(ms:List Mp)(w:Wv)(hA:Mps w A1 ms)(hn:ms.length=n1)(hst:StF ms)(hco:gQ ms)(hh:dE ms)(hbig:n1<=1048576):
  Calls prog 62 #[.agg #[H A0 n0 k0,H A1 n1 k1,H A2 n2 k2]] w (FK ms w):=by
 subst hn;have SZ:=G (ZG A0 n0 k0 A1 k1 A2 n2 k2 w.heap.size ms w rfl hA hst hco hbig);have OK:=G (fun mk cyc lng=>jM.of (mk:=mk) (cyc:=cyc) (lng:=lng) hst hh);have ON:=G (fun i(hi:i<ms.length)=>(mK hst hh true hi).trans (if_pos (.inl rfl)));have HH:=G (fun i(hi:i<ms.length)=>show hk ms[i].frm=0 from by unfold hk;rw[hh i hi];rfl);have CO:=G (fun i(hi:i<ms.length)=>(hco i hi).1);clear hst hco hh;have hmm:=@run_makeMap prog;have hsf:=fun(W:Wv) (a:Addr) (m:Mode) (fn:Fn) (x y:Array Value)=>run_store prog W a (.func fn x y) m rfl
 go_enter func62,ntmps62;go_wp2_with fail;obtain⟨W0,hW0⟩:∃W0,(((((((w).alloc (.cells #[H A0 n0 k0,H A1 ms.length k1,H A2 n2 k2] 28)).alloc (.cells #[.bool false] 4)).alloc (.cells #[.bool false] 4)).alloc (.map #[] 0)).alloc (.cells #[.map (Z (w.heap.size+1+1+1))] 160)).alloc (.cells #[.func (.func 105) #[] #[.pointer (Z ⟨w.heap.size,0,N⟩),.pointer (Z ⟨w.heap.size+1+1+1+1,0,N⟩),.pointer (Z ⟨w.heap.size+1,0,N⟩),.pointer (Z ⟨w.heap.size+1+1+1+1+1,0,N⟩),.pointer (Z ⟨w.heap.size+1+1,0,N⟩)]] 65))=W0:=⟨_,rfl⟩;obtain⟨hM0,hB0⟩:=E_ A0 n0 k0 A1 ms.length k1 A2 n2 k2 w;rw[hW0]at hM0 hB0|-;clear hW0 hmm hsf;have HM0:=G hM0;clear hM0
 go_loopw [7,13] (fun _ u wr=>∃(i n:Nat)(mk:Int->Option Int)(cyc lng:Bool),i<=ms.length/\u=I J i/\MS A0 n0 k0 A1 ms.length k1 A2 n2 k2 w.heap.size wr n mk cyc lng/\fK (onM ms true) aH mxE mk cyc lng/\(∀x,mk x≠Z (-1))/\n+200*unmarked (fsM ms) mk<=200*ms.length/\
   (∀t,(ht:t<ms.length)->t<i->ms[t].to≠[]->∃k,mk ms[t].frm=Z k)/\By w wr) (fun _ u _=>ms.length-(intOf u).toNat)
 case atStart=>
  refine⟨0,0,_,false,false,Nat.zero_le _,rfl,HM0.out,EV _ _ _,fun x h=>(by cases h),?_,fun t _ h=>absurd h (Nat.not_lt_zero _),hB0⟩;have:=DQ (fsM ms) (fun _=>N);unfold fsM at *;rw[List.length_map]at this;omega
 obtain⟨i,n,mk,cyc,lng,hi,rfl,hMS,hDI,hfin,hpot,hmkd,hb⟩:=hrel;have HMS:=G hMS;have HDI:=G hDI;have HFI:=G hfin;have HPO:=G hpot;have HMD:=G hmkd;clear hMS hDI hfin hpot hmkd;by_cases hlt:i<ms.length
 ·obtain⟨b,o,rfl,_,hcell⟩:=(hA.below hb).at hlt
  obtain⟨E,d,c1,c2,c3,_,_⟩:=hcell i hlt;clear hcell;have HO:=G (ON.out i hlt);have h0:=HH.out i hlt;have hcd:=CO.out i hlt
  have HST:=G (fun(mk':Int->Option Int) (he:eV mk mk') (hm:ms[i].to≠[]->∃k,mk' ms[i].frm=Z k)=>show ∀t,(ht:t<ms.length)->t<i+1->ms[t].to≠[]->∃k,mk' ms[t].frm=Z k from fun t ht h1 h2=>by
   by_cases e:t=i
   ·subst e;exact hm h2
   ·obtain⟨k,hk⟩:=HMD.out t ht (by omega) h2;exact⟨k,he.old _ _ hk⟩)
  generalize ms[i].frm=f at *;generalize ms[i].to=to at *;generalize ms[i].tag=tg at *;have hBa:By wr (wr.alloc (.cells #[I J f,H E to.length d,.string tg] 116)):=ba _ _;have hbW:=hb.trans (hBa.mono hb.size);have hMW:=HMS.out.below hBa;have p5:(wr.alloc (.cells #[I J f,H E to.length d,.string tg] 116)).cell? ⟨w.heap.size+1+1+1+1+1,0,N⟩=Z (.func (.func 105) #[] #[.pointer (Z ⟨w.heap.size,0,N⟩),.pointer (Z ⟨w.heap.size+1+1+1+1,0,N⟩),.pointer (Z ⟨w.heap.size+1,0,N⟩),.pointer (Z ⟨w.heap.size+1+1+1+1+1,0,N⟩),.pointer (Z ⟨w.heap.size+1+1,0,N⟩)]):=hMW.bS.cell rfl;have q5:wr.cell? ⟨w.heap.size+1+1+1+1+1,0,N⟩=Z (.func (.func 105) #[] #[.pointer (Z ⟨w.heap.size,0,N⟩),.pointer (Z ⟨w.heap.size+1+1+1+1,0,N⟩),.pointer (Z ⟨w.heap.size+1,0,N⟩),.pointer (Z ⟨w.heap.size+1+1+1+1+1,0,N⟩),.pointer (Z ⟨w.heap.size+1+1,0,N⟩)]):=HMS.out.bS.cell rfl
  have CL:=U (Calls prog 105 #[I J f,.pointer (Z ⟨w.heap.size,0,N⟩),.pointer (Z ⟨w.heap.size+1+1+1+1,0,N⟩),.pointer (Z ⟨w.heap.size+1,0,N⟩),.pointer (Z ⟨w.heap.size+1+1+1+1+1,0,N⟩),.pointer (Z ⟨w.heap.size+1+1,0,N⟩)] (wr.alloc (.cells #[I J f,H E to.length d,.string tg] 116))
    (mR A0 n0 k0 _ ms.length k1 A2 n2 k2 w.heap.size ms f (wr.alloc (.cells #[I J f,H E to.length d,.string tg] 116)) n mk cyc)) (SZ.out (2*unmarked (fsM ms) mk+1) f _ n mk cyc lng (by omega) hcd HDI.out (fun x h=>absurd h (HFI.out x)) hMW hbW (by have:=HPO.out;omega))
  clear hMW hBa;go_wp2_with fail;with_reducible refine CL.out.mono ?_
  rintro e W ⟨v,n',mk',cyc',lng',rfl,hp⟩;have hbN:=hbW.trans hp.bel
  have RL:=U (MS A0 n0 k0 _ ms.length k1 A2 n2 k2 w.heap.size W n' mk' cyc' lng'/\fK (onM ms true) aH mxE mk' cyc' lng'/\(∀x,mk' x≠Z (-1))/\n'+200*unmarked (fsM ms) mk'<=200*ms.length/\(∀t,(ht:t<ms.length)->t<i+1->ms[t].to≠[]->∃k,mk' ms[t].frm=Z k)) (⟨hp.st,hp.inv,fun x=>by
    cases hx:mk x with
    |none=>exact hp.ext.new x hx
    |some k=>intro h;have:=hp.ext.old x k hx;rw[h]at this;injection this with this;subst this;exact HFI.out x hx,
   by have:=hp.pot;have:=HPO.out;omega,HST.out mk' hp.ext (fun hne=>hp.mkd to HO.out hne)⟩)
  clear hp CL p5 q5;go_wp2_with fail;go_roundw
  case rel=>exact⟨i+1,n',mk',cyc',lng',by omega,by go_num,RL.out.1,RL.out.2.1,RL.out.2.2.1,RL.out.2.2.2.1,RL.out.2.2.2.2,hbN⟩
  simp[intOf];omega
 obtain rfl:i=ms.length:=by omega
 have MO:=G (OK.out mk cyc lng HDI.out HFI.out (fun t ht h=>HMD.out t ht ht h));have e1:wr.cell? ⟨w.heap.size+1,0,N⟩=Z (.bool cyc):=HMS.out.bC.cell rfl;have e2:wr.cell? ⟨w.heap.size+1+1,0,N⟩=Z (.bool lng):=HMS.out.bL.cell rfl;have e3:wr.frozen? ⟨w.heap.size+1,0,N⟩=false:=HMS.out.bC.free 0;have e4:wr.frozen? ⟨w.heap.size+1+1,0,N⟩=false:=HMS.out.bL.free 0;go_wp2_with fail;go_region
 all_goals
  go_wp2_with fail;(try simp only[Exit.inBlock,Exit.then]);refine bodyPost_ret (XC rfl _ _ _ rfl rfl (yY _ _ cyc ?_) (yY _ _ lng ?_)) rfl ?_
  ·go_simp
  ·go_simp
  exact⟨cyc,lng,rfl,MO.out,((hb.setCell (by simp) _).setCell (by simp;omega) _).drew⟩
end
section
open Go.RowKit
def jG(lo hi c:Int):Int:=if hi<c then -1 else if c<lo then 1 else 0
theorem wE(lo hi v c:Int)(w:Wv):Calls prog 161 #[.agg #[I J lo,I J hi,I J v],I J c] w (cA (jG lo hi c) w):=by
 unfold jG;by_cases h1:hi<c
 ·rw[if_pos h1]
  go_enter func161,ntmps161;go_wp2;go_ret;exact⟨rfl,ba _ _⟩
 rw[if_neg h1];by_cases h2:c<lo
 ·rw[if_pos h2]
  go_enter func161,ntmps161;go_wp2;go_ret;exact⟨rfl,ba _ _⟩
 rw[if_neg h2];go_enter func161,ntmps161;go_wp2;go_ret;exact⟨rfl,ba _ _⟩
def rF(ss:List Spn)(c:Int)(i:Nat)(found:Bool):Prop:=
 i<=ss.length/\(∀t,(ht:t<ss.length)->t<i->ss[t].hi<c)/\(∀t,(ht:t<ss.length)->i<=t->c<=ss[t].hi)/\found=decide (∃h:i<ss.length,ss[i].lo<=c)
def FR(ss:List Spn)(c:Int)(w:Wv)(e:Ending)(w':Wv):Prop:=∃(i:Nat)(f:Bool),e=.returned (.tuple #[I J i,.bool f])/\rF ss c i f/\By w w'
theorem IN(A:Oa)(n k:Nat)(ss:List Spn)(c:Int)(w:Wv)(hA:aZ w A ss)(hn:ss.length=n)(hbig:n<=1099511627776)(hasc:Asc ss):
  Calls prog 160 #[H A n k,I J c,.func (.func 161) #[] #[]] w (FR ss c w):=by
 subst hn;have HS:=G hasc;clear hasc;go_enter func160,ntmps160;go_wp2
 go_loopw [9,10] (fun u v wr=>∃i j:Nat,i<=j/\j<=ss.length/\u=I J i/\v=I J j/\(∀t,(ht:t<ss.length)->t<i->ss[t].hi<c)/\(∀t,(ht:t<ss.length)->j<=t->c<=ss[t].hi)/\By w wr)
  (fun u v _=>(intOf v).toNat-(intOf u).toNat)
 case atStart=>exact⟨0,ss.length,Nat.zero_le _,Nat.le_refl _,rfl,rfl,fun t _ h=>by omega,fun t h1 h2=>by omega,Below.refl _ _⟩
 obtain⟨i,j,hij,hj,rfl,rfl,hlo,hhi,hbel⟩:=hrel;have HLO:=G hlo;have HHI:=G hhi;clear hlo hhi;by_cases hlt:i<j
 ·obtain⟨h,hh,h1,h2,h3⟩:∃h:Nat,((i:Int)+(j:Int))/2=(h:Int)/\i<=h/\h<j/\h<ss.length:=⟨(i+j)/2,by omega,by omega,by omega,by omega⟩
  obtain⟨b,o,rfl,_,hcell⟩:=(hA.below hbel).at h3;obtain⟨c1,c2,c3⟩:=hcell h h3;clear hcell;have HO:=G (fun t(ht:t<ss.length)(hth:t<h)=>(HS.out t h ht h3).2 hth);have HO2:=G (fun t(ht:t<ss.length)(hth:h<t)=>(HS.out h t h3 ht).2 hth);have HO3:=G (fun t(ht:t<ss.length)=>(HS.out t t ht ht).1);have HO4:=G (HS.out h h h3 h3).1;generalize hlo:ss[h].lo=lo at *;generalize hhi:ss[h].hi=hi at *;generalize ss[h].val=v at *;have E1:=G hlo;have E2:=G hhi;have C:=G (wE lo hi v c);clear hlo hhi;by_cases hk:hi<c
  ·have hsc:jG lo hi c=-1:=by unfold jG;rw[if_pos hk]
   rw[hsc]at C;clear hsc;go_wp2_with(go_at_call 161;refine(C.out _).mono ?_;rintro e w1 ⟨rfl,hb1⟩);go_roundw
   case rel=>
    refine⟨h+1,j,by omega,hj,by go_num,rfl,fun t ht g=>?_,HHI.out,hbel.trans (hb1.mono hbel.size)⟩;by_cases e:t=h
    ·subst e;rw[E2.out];exact hk
    have a1:=HO.out t ht (by omega);have a2:=HO4.out;omega
   simp[intOf];omega
  have hsc:0<=jG lo hi c:=by unfold jG;rw[if_neg hk];split<;>omega
  generalize jG lo hi c=sc at *;go_wp2_with(go_at_call 161;refine(C.out _).mono ?_;rintro e w1 ⟨rfl,hb1⟩);go_roundw
  case rel=>
   refine⟨i,h,h1,by omega,rfl,rfl,HLO.out,fun t ht g=>?_,hbel.trans (hb1.mono hbel.size)⟩;by_cases e:t=h
   ·subst e;rw[E2.out];omega
   have a1:=HO2.out t ht (by omega);have a2:=HO3.out t ht;omega
  simp[intOf];omega
 obtain rfl:i=j:=by omega
 by_cases hend:i<ss.length
 ·obtain⟨b,o,rfl,_,hcell⟩:=(hA.below hbel).at hend
  obtain⟨c1,c2,c3⟩:=hcell i hend;clear hcell;have hci:=HHI.out i hend (Nat.le_refl _)
  have HF:=G (show decide (∃h:i<ss.length,ss[i].lo<=c)=(jG ss[i].lo ss[i].hi c==0) by
   rw[Bool.eq_iff_iff];simp only[decide_eq_true_eq,beq_iff_eq];unfold jG;rw[if_neg (by omega)];split
   ·constructor
    ·rintro⟨_,h⟩;omega
    intro h;omega
   ·exact⟨fun _=>rfl,fun _=>⟨hend,by omega⟩⟩)
  clear hci;generalize ss[i].lo=lo at *;generalize ss[i].hi=hi at *;generalize ss[i].val=v at *;have C:=G (wE lo hi v c);generalize jG lo hi c=sc at *;go_wp2_with(go_at_call 161;refine(C.out _).mono ?_;rintro e w1 ⟨rfl,hb1⟩);go_ret2;refine⟨i,_,rfl,⟨hj,HLO.out,HHI.out,?_⟩,hbel.trans (hb1.mono hbel.size)⟩;exact HF.out.symm
 go_wp2_with fail;go_ret2;refine⟨i,_,rfl,⟨hj,HLO.out,HHI.out,?_⟩,hbel⟩;simp[hend]
theorem rF.cls{ss:List Spn}{c:Int}{i:Nat}{f:Bool}(h:rF ss c i f)(hasc:Asc ss):if f=true then ∃hi:i<ss.length,Go.Proofs.YtpfbnikbebccjaaGreatDoor.cls ss c=ss[i].val else Go.Proofs.YtpfbnikbebccjaaGreatDoor.cls ss c=0:=by
 obtain⟨h1,h2,h3,h4⟩:=h;by_cases e:∃g:i<ss.length,ss[i].lo<=c
 ·rw[if_pos (by rw[h4];simpa using e)]
  obtain⟨g,hg⟩:=e;exact⟨g,wG ss c i g hasc hg (h3 i g (Nat.le_refl _))⟩
 rw[if_neg (by rw[h4];simpa using e)];refine rS ss c fun t ht hc=>?_
 by_cases e1:t<i
 ·have:=h2 t ht e1;omega
 by_cases e2:t=i
 ·subst e2;exact e ⟨ht,hc.1⟩
 have hi:i<ss.length:=by omega
 have a1:=(hasc i t hi ht).2 (by omega);have a2:=(hasc i i hi hi).1;exact e ⟨hi,by omega⟩
theorem rR(A:Oa)(n k:Nat)(ss:List Spn)(c:Int)(w:Wv)(hA:aZ w A ss)(hn:ss.length=n)(hbig:n<=1099511627776)(hasc:Asc ss):
  Calls prog 135 #[H A n k,I J c] w (cA (cls ss c) w):=by
 subst hn;have C:=G (IN A ss.length k ss c w hA rfl hbig hasc);have HS:=G hasc;clear hasc;go_enter func135,ntmps135;go_wp2_with fail;refine C.out.mono ?_;rintro e w1 ⟨i,f,rfl,hs,hb1⟩;have h:=hs.cls HS.out;cases f with
 |true=>
  rw[if_pos rfl]at h;obtain⟨hi,hcls⟩:=h;obtain⟨b,o,rfl,_,hcell⟩:=(hA.below hb1).at hi;obtain⟨c1,c2,c3⟩:=hcell i hi;have HC:=G hcls;clear hcell hs hcls;generalize ss[i].val=v at *;go_wp2_with fail;go_ret;exact⟨aE HC.out.symm,hb1⟩
 |false=>
  rw[if_neg (by simp)]at h;have HC:=G h;clear hs h;go_wp2_with fail;go_ret;exact⟨aE HC.out.symm,hb1⟩
def dL(w:Wv):Prop:=
 w.cell? ⟨0,0,N⟩=Z (I J 4352)/\w.cell? ⟨0,1,N⟩=Z (I J 4370)/\
 w.cell? ⟨0,2,N⟩=Z (I J 4449)/\w.cell? ⟨0,3,N⟩=Z (I J 4469)/\
 w.cell? ⟨0,4,N⟩=Z (I J 4520)/\w.cell? ⟨0,5,N⟩=Z (I J 4546)/\
 w.cell? ⟨0,6,N⟩=Z (I J 44032)/\w.cell? ⟨0,7,N⟩=Z (I J 55203)
theorem dL.below{w w':Wv}(h:dL w)(hb:By w w'):dL w':=by
 obtain⟨h0,h1,h2,h3,h4,h5,h6,h7⟩:=h
 exact⟨(hb.cell (World.block_lt_of_cell? w _ h0)).trans h0,(hb.cell (World.block_lt_of_cell? w _ h1)).trans h1,(hb.cell (World.block_lt_of_cell? w _ h2)).trans h2,(hb.cell (World.block_lt_of_cell? w _ h3)).trans h3,
  (hb.cell (World.block_lt_of_cell? w _ h4)).trans h4,(hb.cell (World.block_lt_of_cell? w _ h5)).trans h5,(hb.cell (World.block_lt_of_cell? w _ h6)).trans h6,(hb.cell (World.block_lt_of_cell? w _ h7)).trans h7⟩
theorem TV(W:Wv):(Instr.index 149 (.agg #[I J 4352,I J 4370,I J 4449,I J 4469,I J 4520,I J 4546,I J 44032,I J 55203]) (I J 0)).run prog W=.ok (.agg #[I J 4352,I J 4370]) W:=by kernel_rfl
theorem TX(W:Wv):(Instr.index 149 (.agg #[I J 4352,I J 4370,I J 4449,I J 4469,I J 4520,I J 4546,I J 44032,I J 55203]) (I J 1)).run prog W=.ok (.agg #[I J 4449,I J 4469]) W:=by kernel_rfl
theorem TY(W:Wv):(Instr.index 149 (.agg #[I J 4352,I J 4370,I J 4449,I J 4469,I J 4520,I J 4546,I J 44032,I J 55203]) (I J 2)).run prog W=.ok (.agg #[I J 4520,I J 4546]) W:=by kernel_rfl
theorem TZ(W:Wv):(Instr.index 149 (.agg #[I J 4352,I J 4370,I J 4449,I J 4469,I J 4520,I J 4546,I J 44032,I J 55203]) (I J 3)).run prog W=.ok (.agg #[I J 44032,I J 55203]) W:=by kernel_rfl
theorem uO(A:Oa)(n k:Nat)(ss:List Spn)(w:Wv)(hA:aZ w A ss)(hn:ss.length=n)(hbig:n<=1099511627776)(hL:dL w):
  Calls prog 57 #[H A n k] w (cA (chk ss) w):=by
 subst hn;go_enter func57,ntmps57;go_wp2;go_loopw [14] (fun u wr=>∃i:Nat,i<=ss.length/\u=I J i/\(∀t,(ht:t<ss.length)->t<i->¬eI ss[t])/\By w wr) (fun u _=>ss.length-(intOf u).toNat)
 case atStart=>exact⟨0,Nat.zero_le _,rfl,fun t _ h=>by omega,Below.refl _ _⟩
 obtain⟨i,hi,rfl,h1,hbel⟩:=hrel;have H1:=G h1;clear h1;by_cases hlt:i<ss.length
 ·obtain⟨b,o,rfl,hbl,hcell⟩:=(hA.below hbel).at hlt
  obtain⟨c1,c2,c3⟩:=hcell i hlt;clear hcell;have HB:=U (eI ss[i] ↔ (ss[i].lo<0\/1114111<ss[i].hi\/ss[i].hi<ss[i].lo\/ss[i].val<1\/254<ss[i].val)) Iff.rfl;have HC:=G (fun h=>wA (ss:=ss) hlt h);have HN:=G (fun h=>oH (P:=eI) hlt H1.out h);generalize eI ss[i]=Bd at *;generalize ss[i].lo=lo at *;generalize ss[i].hi=hi' at *;generalize ss[i].val=v at *;go_wp2
  all_goals first
   | (go_ret
      exact⟨aE (HC.out (HB.out.2 (by omega))).symm,hbel.alloc hbel.size _⟩)
   | (go_roundw
      case rel=>exact⟨i+1,by omega,by go_num,HN.out (fun h=>by have:=HB.out.1 h;omega),hbel.alloc hbel.size _⟩
      case measure=>simp[intOf];omega)
 have H1':=G (fun t(ht:t<ss.length)=>H1.out t ht (by omega));clear H1;go_wp2;go_loopw [5] (fun u wr=>∃i:Nat,i<=ss.length/\u=I J ((i:Int)+1)/\(∀t,(ht:t+1<ss.length)->t<i->¬eT ss[t] ss[t+1])/\By w wr) (fun u _=>ss.length+1-(intOf u).toNat)
 case atStart=>exact⟨0,Nat.zero_le _,rfl,fun t _ h=>by omega,hbel⟩
 obtain⟨j,hj,rfl,h2,hbel2⟩:=hrel;have H2:=G h2;clear h2;by_cases hlt2:j+1<ss.length
 ·obtain⟨b,o,rfl,hbl,hcell⟩:=(hA.below hbel2).at hlt2
  obtain⟨c1,c2,c3⟩:=hcell j (by omega);obtain⟨c4,c5,c6⟩:=hcell (j+1) hlt2;clear hcell;have hmax:=H1'.out j (by omega);have hmax2:ss[j].hi<=1114111/\0<=ss[j].hi:=by unfold eI at hmax;omega
  clear hmax;have HB:=U (eT ss[j] ss[j+1] ↔ (ss[j+1].lo<=ss[j].hi\/(ss[j+1].lo=ss[j].hi+1/\ss[j+1].val=ss[j].val))) Iff.rfl;have HC:=G (fun h=>wC (ss:=ss) H1'.out hlt2 h);have HN:=G (fun h=>zY (P:=eT) hlt2 H2.out h);generalize eT ss[j] ss[j+1]=Bd at *;generalize ss[j].lo=lo at *;generalize ss[j].hi=hi' at *;generalize ss[j].val=v at *;generalize ss[j+1].lo=lo2 at *;generalize ss[j+1].hi=hi2 at *;generalize ss[j+1].val=v2 at *;obtain⟨hm1,hm2⟩:=hmax2;by_cases t1:lo2<=hi'
  ·have d1:decide (lo2<=hi')=true:=by simpa using t1
   go_wp2;go_region
   all_goals
    go_wp2;go_ret;exact⟨aE (HC.out (HB.out.2 (by omega))).symm,by repeat(first|exact hbel2|refine Below.drew ?_|refine Below.alloc ?_ (by have:=hbel2.size;simp;omega) _)⟩
  have d1:decide (lo2<=hi')=false:=by simpa using t1
  by_cases t2:lo2=hi'+1
  ·have d2:(lo2==hi'+1)=true:=by simpa using t2
   by_cases t3:v2=v
   ·have d3:(v2==v)=true:=by simpa using t3
    have HT2:=G t2;have HT3:=G t3;clear t2 t3;go_wp2;go_region
    all_goals
     go_wp2;go_ret;exact⟨aE (HC.out (HB.out.2 (.inr ⟨HT2.out,HT3.out⟩))).symm,by repeat(first|exact hbel2|refine Below.drew ?_|refine Below.alloc ?_ (by have:=hbel2.size;simp;omega) _)⟩
   have d3:(v2==v)=false:=by simpa using t3
   have HT2:=G t2;have HT3:=G t3;clear t2 t3;go_wp2;go_region
   all_goals
    go_wp2;go_roundw
    case rel=>exact⟨j+1,by omega,by go_num,HN.out (fun h=>by have:=HB.out.1 h;have:=HT3.out;omega),by repeat(first|exact hbel2|refine Below.drew ?_|refine Below.alloc ?_ (by have:=hbel2.size;simp;omega) _)⟩
    simp[intOf];omega
  have d2:(lo2==hi'+1)=false:=by simpa using t2
  have HT2:=G t2;clear t2;go_wp2;go_region
  all_goals
   go_wp2;go_roundw
   case rel=>exact⟨j+1,by omega,by go_num,HN.out (fun h=>by have:=HB.out.1 h;have:=HT2.out;omega),by repeat(first|exact hbel2|refine Below.drew ?_|refine Below.alloc ?_ (by have:=hbel2.size;simp;omega) _)⟩
   simp[intOf];omega
 have H2':=G (fun t(ht:t+1<ss.length)=>H2.out t ht (by omega));clear H2;go_wp2;go_loopw [81] (fun u wr=>∃i:Nat,i<=ss.length/\u=I J i/\(∀t,(ht:t<ss.length)->t<i->¬gP ss[t])/\By w wr) (fun u _=>ss.length-(intOf u).toNat)
 case atStart=>exact⟨0,Nat.zero_le _,rfl,fun t _ h=>by omega,hbel2⟩
 obtain⟨i,hi,rfl,h3,hbel3⟩:=hrel;have H3:=G h3;clear h3;by_cases hlt3:i<ss.length
 ·obtain⟨b,o,rfl,hbl,hcell⟩:=(hA.below hbel3).at hlt3
  obtain⟨c1,c2,c3⟩:=hcell i hlt3;obtain⟨l0,l1,l2,l3,l4,l5,l6,l7⟩:=hL.below hbel3;clear hcell;have hz:0<wr.heap.size:=World.block_lt_of_cell? wr _ l0;have HB:=U (gP ss[i] ↔ ((ss[i].lo<=4370/\4352<=ss[i].hi)\/(ss[i].lo<=4469/\4449<=ss[i].hi)\/(ss[i].lo<=4546/\4520<=ss[i].hi)\/(ss[i].lo<=55203/\44032<=ss[i].hi))) Iff.rfl;have HC:=G (fun h=>wB (ss:=ss) H1'.out H2'.out hlt3 h);have HN:=G (fun h=>oH (P:=gP) hlt3 H3.out h);generalize gP ss[i]=Bd at *;generalize ss[i].lo=lo at *;generalize ss[i].hi=hi' at *;generalize ss[i].val=v at *;obtain⟨wo,rfl⟩:∃wo:Wv,wo=wr:=⟨_,rfl⟩;go_wp2;have hB9:By w (wo.alloc (.cells #[I J lo,I J hi',I J v] 123)):=hbel3.alloc hbel3.size _
  go_loopw [86] (fun u wr=>∃j:Int,0<=j/\j<=4/\u=I J j/\(0<j->¬(lo<=4370/\4352<=hi'))/\(1<j->¬(lo<=4469/\4449<=hi'))/\(2<j->¬(lo<=4546/\4520<=hi'))/\(3<j->¬(lo<=55203/\44032<=hi'))/\
    Below (wo.heap.size+1) (wo.alloc (.cells #[I J lo,I J hi',I J v] 123)) wr) (fun u _=>4-(intOf u).toNat)
  case atStart=>exact⟨0,by omega,by omega,rfl,by omega,by omega,by omega,by omega,Below.refl _ _⟩
  obtain⟨j,hj0,hj4,rfl,g0,g1,g2,g3,hbw⟩:=hrel;have a0:wr.cell? ⟨wo.heap.size,0,N⟩=Z (I J lo):=(hbw.cell (p:=⟨wo.heap.size,0,N⟩) (by simp)).trans (by simp[World.cell?_alloc_at]);have a1:wr.cell? ⟨wo.heap.size,1,N⟩=Z (I J hi'):=(hbw.cell (p:=⟨wo.heap.size,1,N⟩) (by simp)).trans (by simp[World.cell?_alloc_at]);have hsz:wo.heap.size<wr.heap.size:=by have:=hbw.size;simp at this;omega
  have HBW:=G (hB9.trans (hbw.mono (by have:=hbel3.size;omega)));have HG:=G (And.intro g0 (And.intro g1 (And.intro g2 g3)));clear g0 g1 g2 g3;have x0:=TV;have x1:=TX;have x2:=TY;have x3:=TZ;obtain rfl|rfl|rfl|rfl|rfl:j=0\/j=1\/j=2\/j=3\/j=4:=by omega
  all_goals go_wp2
  all_goals first
   | (go_ret
      exact⟨aE (HC.out (HB.out.2 (by omega))).symm,HBW.out.alloc (by have:=hbel3.size;omega) _⟩)
   | (go_roundw
      case rel=>exact⟨i+1,by omega,by go_num,HN.out (fun h=>by have h1:=HB.out.1 h;have h2:=HG.out;omega),HBW.out⟩
      case measure=>simp[intOf];omega)
   | (go_roundw
      case rel=>exact⟨1,by omega,by omega,rfl,by have:=HG.out;omega,by have:=HG.out;omega,by have:=HG.out;omega,by have:=HG.out;omega,hbw.alloc (by omega) _⟩
      case measure=>simp[intOf])
   | (go_roundw
      case rel=>exact⟨2,by omega,by omega,rfl,by have:=HG.out;omega,by have:=HG.out;omega,by have:=HG.out;omega,by have:=HG.out;omega,hbw.alloc (by omega) _⟩
      case measure=>simp[intOf])
   | (go_roundw
      case rel=>exact⟨3,by omega,by omega,rfl,by have:=HG.out;omega,by have:=HG.out;omega,by have:=HG.out;omega,by have:=HG.out;omega,hbw.alloc (by omega) _⟩
      case measure=>simp[intOf])
   | (go_roundw
      case rel=>exact⟨4,by omega,by omega,rfl,by have:=HG.out;omega,by have:=HG.out;omega,by have:=HG.out;omega,by have:=HG.out;omega,hbw.alloc (by omega) _⟩
      case measure=>simp[intOf])
 have HC:=G (v_ (ss:=ss) H1'.out H2'.out (fun t ht=>H3.out t ht (by omega)));go_wp2;go_ret;exact⟨aE HC.out.symm,hbel3⟩
def vld(c:Int):Bool:=decide (0<=c/\c<=1114111)
theorem lW(c:Int)(w:Wv):Calls prog 97 #[I J c] w fun e w'=>e=.returned (.bool (vld c))/\w'=w:=by
 by_cases h1:0<=c
 ·by_cases h2:c<=1114111
  ·rw[show vld c=true by unfold vld;simp[h1,h2]]
   go_enter func97,ntmps97;go_wp2;go_ret;exact⟨rfl,rfl⟩
  rw[show vld c=false by unfold vld;simp[h1,h2]];go_enter func97,ntmps97;go_wp2;go_ret;exact⟨rfl,rfl⟩
 rw[show vld c=false by unfold vld;simp[h1]];go_enter func97,ntmps97;go_wp2;go_ret;exact⟨rfl,rfl⟩
def sR:Lv:=[I J 4352,I J 4370,I J 4449,I J 4469,I J 4520,I J 4546,I J 44032,I J 55203]
theorem OC(w:Wv):Calls prog 110 #[] w fun e w'=>∃b,e=.returned (H (Z ⟨b,0,N⟩) 4 4)/\Sl w' (Z ⟨b,0,N⟩) sR/\By w w':=by
 go_enter func110,ntmps110;go_wp2;go_ret;exact⟨_,rfl,bU _ sR _ rfl,ba _ _⟩
theorem AK(A:Oa)(n k:Nat)(ss:List Spn)(w:Wv)(hA:aZ w A ss)(hn:ss.length=n)(hbig:n<=1099511627776):
  Calls prog 73 #[H A n k] w (cA (chk ss) w):=by
 subst hn;go_enter func73,ntmps73;go_wp2;go_loopw [3] (fun u wr=>∃i:Nat,i<=ss.length/\u=I J i/\(∀t,(ht:t<ss.length)->t<i->¬eI ss[t])/\By w wr) (fun u _=>ss.length-(intOf u).toNat)
 case atStart=>exact⟨0,Nat.zero_le _,rfl,fun t _ h=>by omega,Below.refl _ _⟩
 obtain⟨i,hi,rfl,h1,hbel⟩:=hrel;have H1:=G h1;clear h1;by_cases hlt:i<ss.length
 ·obtain⟨b,o,rfl,hbl,hcell⟩:=(hA.below hbel).at hlt
  obtain⟨c1,c2,c3⟩:=hcell i hlt;clear hcell;have HB:=U (eI ss[i] ↔ (ss[i].lo<0\/1114111<ss[i].hi\/ss[i].hi<ss[i].lo\/ss[i].val<1\/254<ss[i].val)) Iff.rfl;have HC:=G (fun h=>wA (ss:=ss) hlt h);have HN:=G (fun h=>oH (P:=eI) hlt H1.out h);generalize eI ss[i]=Bd at *;generalize ss[i].lo=lo at *;generalize ss[i].hi=hi' at *;generalize ss[i].val=v at *;by_cases q0:0<=lo/\lo<=1114111
  ·have t0:vld lo=true:=by unfold vld;simpa using q0
   by_cases q1:0<=hi'/\hi'<=1114111
   ·have t1:vld hi'=true:=by unfold vld;simpa using q1
    by_cases q2:¬hi' < lo
    ·have t2:decide (hi' < lo)=false:=by simpa using q2
     by_cases q3:¬v<1
     ·have t3:decide (v<1)=false:=by simpa using q3
      by_cases q4:¬254<v
      ·have t4:decide (254<v)=false:=by simpa using q4
       go_wp2;go_quiet((go_at_call 97;exact Calls.quiet_of_same (lW _ _)));go_wp2;go_roundw
       case rel=>exact⟨i+1,by omega,by go_num,HN.out (fun h=>by have:=HB.out.1 h;omega),bP hbel _⟩
       simp[intOf];omega
      have t4:decide (254<v)=true:=by simpa using q4
      go_wp2;go_quiet((go_at_call 97;exact Calls.quiet_of_same (lW _ _)));go_wp2;go_ret;exact⟨aE (HC.out (HB.out.2 (by omega))).symm,bP hbel _⟩
     have t3:decide (v<1)=true:=by simpa using q3
     go_wp2;go_quiet((go_at_call 97;exact Calls.quiet_of_same (lW _ _)));go_wp2;go_ret;exact⟨aE (HC.out (HB.out.2 (by omega))).symm,bP hbel _⟩
    have t2:decide (hi' < lo)=true:=by simpa using q2
    go_wp2;go_quiet((go_at_call 97;exact Calls.quiet_of_same (lW _ _)));go_wp2;go_ret;exact⟨aE (HC.out (HB.out.2 (by omega))).symm,bP hbel _⟩
   have t1:vld hi'=false:=by unfold vld;simpa using q1
   go_wp2;go_quiet((go_at_call 97;exact Calls.quiet_of_same (lW _ _)));go_wp2;go_ret;exact⟨aE (HC.out (HB.out.2 (by omega))).symm,bP hbel _⟩
  have t0:vld lo=false:=by unfold vld;simpa using q0
  go_wp2;go_quiet((go_at_call 97;exact Calls.quiet_of_same (lW _ _)));go_wp2;go_ret;exact⟨aE (HC.out (HB.out.2 (by omega))).symm,bP hbel _⟩
 have H1':=G (fun t(ht:t<ss.length)=>H1.out t ht (by omega));clear H1;go_wp2;go_loopw [4] (fun u wr=>∃i:Nat,i<=ss.length/\u=I J ((i:Int)+1)/\(∀t,(ht:t+1<ss.length)->t<i->¬eT ss[t] ss[t+1])/\By w wr) (fun u _=>ss.length+1-(intOf u).toNat)
 case atStart=>exact⟨0,Nat.zero_le _,rfl,fun t _ h=>by omega,hbel⟩
 obtain⟨j,hj,rfl,h2,hbel2⟩:=hrel;have H2:=G h2;clear h2;by_cases hlt2:j+1<ss.length
 ·obtain⟨b,o,rfl,hbl,hcell⟩:=(hA.below hbel2).at hlt2
  obtain⟨c1,c2,c3⟩:=hcell j (by omega);obtain⟨c4,c5,c6⟩:=hcell (j+1) hlt2;clear hcell;have hmax:=H1'.out j (by omega);have hmax2:ss[j].hi<=1114111/\0<=ss[j].hi:=by unfold eI at hmax;omega
  clear hmax;have HB:=U (eT ss[j] ss[j+1] ↔ (ss[j+1].lo<=ss[j].hi\/(ss[j+1].lo=ss[j].hi+1/\ss[j+1].val=ss[j].val))) Iff.rfl;have HC:=G (fun h=>wC (ss:=ss) H1'.out hlt2 h);have HN:=G (fun h=>zY (P:=eT) hlt2 H2.out h);generalize eT ss[j] ss[j+1]=Bd at *;generalize ss[j].lo=lo at *;generalize ss[j].hi=hi' at *;generalize ss[j].val=v at *;generalize ss[j+1].lo=lo2 at *;generalize ss[j+1].hi=hi2 at *;generalize ss[j+1].val=v2 at *;obtain⟨hm1,hm2⟩:=hmax2;have i1:IntKind.i64.wrap ((j:Int)+1-1)=(j:Int):=by rw[show(j:Int)+1-1=(j:Int) by omega];exact IntWalk.i64_in _ (by omega)
  have i2:(j:Int)+1-1=(j:Int):=by omega
  have i3:((j:Int)+1).toNat=j+1:=by omega
  have i4:(j:Int)+1<(ss.length:Int):=by omega
  have i5:(0:Int)<=(j:Int)+1:=by omega
  have i6:(j:Int)<(ss.length:Int):=by omega
  have i7:IntKind.i64.wrap (j:Int)=(j:Int):=IntWalk.i64_in _ (by omega);have i8:IntKind.i64.wrap (hi'+1)=hi'+1:=IntWalk.i64_in _ (by omega);by_cases t1:lo2<=hi'
  ·have d1:decide (lo2<=hi')=true:=by simpa using t1
   go_wp2;go_quiet(fail);go_wp2;go_ret;exact⟨aE (HC.out (HB.out.2 (.inl t1))).symm,bP hbel2 _⟩
  have d1:decide (lo2<=hi')=false:=by simpa using t1
  by_cases t2:lo2=hi'+1
  ·have d2:(lo2==hi'+1)=true:=by simpa using t2
   by_cases t3:v2=v
   ·have d3:(v2==v)=true:=by simpa using t3
    have HT2:=G t2;have HT3:=G t3;clear t2 t3;go_wp2;go_quiet(fail);go_wp2;go_ret;exact⟨aE (HC.out (HB.out.2 (.inr ⟨HT2.out,HT3.out⟩))).symm,bP hbel2 _⟩
   have d3:(v2==v)=false:=by simpa using t3
   have HT2:=G t2;have HT3:=G t3;clear t2 t3;go_wp2;go_quiet(fail);go_wp2;go_roundw
   case rel=>exact⟨j+1,by omega,by go_num,HN.out (fun h=>by have:=HB.out.1 h;have:=HT3.out;omega),bP hbel2 _⟩
   simp[intOf];omega
  have d2:(lo2==hi'+1)=false:=by simpa using t2
  have HT2:=G t2;clear t2;go_wp2;go_quiet(fail);go_wp2;go_roundw
  case rel=>exact⟨j+1,by omega,by go_num,HN.out (fun h=>by have:=HB.out.1 h;have:=HT2.out;omega),bP hbel2 _⟩
  simp[intOf];omega
 have H2':=G (fun t(ht:t+1<ss.length)=>H2.out t ht (by omega));clear H2;have CH:=G OC;go_wp2_with fail;refine(CH.out _).mono ?_;rintro e W1 ⟨bh,rfl,hSl,hbh⟩;have hbelh:=hbel2.trans (hbh.mono hbel2.size);clear hbel2 hbh;obtain⟨_,_,hAh,hch⟩:=hSl (by simp[sR]);injection hAh with hAh;injection hAh with ha1 ha2;subst ha1;subst ha2;have k0:=hch 0 _ rfl;have k1:=hch 1 _ rfl;have k2:=hch 2 _ rfl;have k3:=hch 3 _ rfl;have k4:=hch 4 _ rfl;have k5:=hch 5 _ rfl;have k6:=hch 6 _ rfl;have k7:=hch 7 _ rfl;simp only[Nat.zero_add]at k0 k1 k2 k3 k4 k5 k6 k7;have hltb:bh<W1.heap.size:=World.block_lt_of_cell? W1 _ k0;clear hch hSl;go_wp2_with fail;go_loopw [6] (fun u wr=>∃i:Nat,i<=ss.length/\u=I J i/\(∀t,(ht:t<ss.length)->t<i->¬gP ss[t])/\By W1 wr) (fun u _=>ss.length-(intOf u).toNat)
 case atStart=>exact⟨0,Nat.zero_le _,rfl,fun t _ h=>by omega,Below.refl _ _⟩
 obtain⟨i,hi,rfl,h3,hbel4⟩:=hrel;have hbel3:By w wr:=hbelh.trans (hbel4.mono hbelh.size);have H3:=G h3;clear h3;by_cases hlt3:i<ss.length
 ·obtain⟨b,o,rfl,hbl,hcell⟩:=(hA.below hbel3).at hlt3
  obtain⟨c1,c2,c3⟩:=hcell i hlt3;clear hcell;have HB:=U (gP ss[i] ↔ ((ss[i].lo<=4370/\4352<=ss[i].hi)\/(ss[i].lo<=4469/\4449<=ss[i].hi)\/(ss[i].lo<=4546/\4520<=ss[i].hi)\/(ss[i].lo<=55203/\44032<=ss[i].hi))) Iff.rfl;have HC:=G (fun h=>wB (ss:=ss) H1'.out H2'.out hlt3 h);have HN:=G (fun h=>oH (P:=gP) hlt3 H3.out h);generalize gP ss[i]=Bd at *;generalize ss[i].lo=lo at *;generalize ss[i].hi=hi' at *;generalize ss[i].val=v at *;have m0:=(hbel4.cell (p:=⟨bh,0,N⟩) hltb).trans k0;have m1:=(hbel4.cell (p:=⟨bh,1,N⟩) hltb).trans k1;have m2:=(hbel4.cell (p:=⟨bh,2,N⟩) hltb).trans k2;have m3:=(hbel4.cell (p:=⟨bh,3,N⟩) hltb).trans k3;have m4:=(hbel4.cell (p:=⟨bh,4,N⟩) hltb).trans k4;have m5:=(hbel4.cell (p:=⟨bh,5,N⟩) hltb).trans k5;have m6:=(hbel4.cell (p:=⟨bh,6,N⟩) hltb).trans k6;have m7:=(hbel4.cell (p:=⟨bh,7,N⟩) hltb).trans k7;clear k0 k1 k2 k3 k4 k5 k6 k7;obtain⟨wo,rfl⟩:∃wo:Wv,wo=wr:=⟨_,rfl⟩;go_wp2
  go_loopw [7] (fun u wr=>∃j:Int,0<=j/\j<=4/\u=I J j/\(0<j->¬(lo<=4370/\4352<=hi'))/\(1<j->¬(lo<=4469/\4449<=hi'))/\(2<j->¬(lo<=4546/\4520<=hi'))/\(3<j->¬(lo<=55203/\44032<=hi'))/\
    Qt wo wr) (fun u _=>4-(intOf u).toNat)
  case atStart=>exact⟨0,by omega,by omega,rfl,by omega,by omega,by omega,by omega,Qt.refl _⟩
  obtain⟨j,hj0,hj4,rfl,g0,g1,g2,g3,q,rfl⟩:=hrel;have HBW:=G (bP hbel3 q);have HG:=G (And.intro g0 (And.intro g1 (And.intro g2 g3)));clear g0 g1 g2 g3;obtain rfl|rfl|rfl|rfl|rfl:j=0\/j=1\/j=2\/j=3\/j=4:=by omega
  ·by_cases e1:lo<=4370
   ·have d1:decide (lo<=4370)=true:=by simpa using e1
    by_cases e2:4352<=hi'
    ·have d2:decide (4352<=hi')=true:=by simpa using e2
     go_wp2;go_quiet(fail);go_wp2;go_ret;exact⟨aE (HC.out (HB.out.2 (by omega))).symm,bP HBW.out _⟩
    have d2:decide (4352<=hi')=false:=by simpa using e2
    go_wp2;go_quiet(fail);go_wp2;go_roundw
    case rel=>exact⟨1,by omega,by omega,rfl,by have:=HG.out;omega,by have:=HG.out;omega,by have:=HG.out;omega,by have:=HG.out;omega,⟨_,rfl⟩⟩
    simp[intOf]
   have d1:decide (lo<=4370)=false:=by simpa using e1
   go_wp2;go_quiet(fail);go_wp2;go_roundw
   case rel=>exact⟨1,by omega,by omega,rfl,by have:=HG.out;omega,by have:=HG.out;omega,by have:=HG.out;omega,by have:=HG.out;omega,⟨_,rfl⟩⟩
   simp[intOf]
  ·by_cases e1:lo<=4469
   ·have d1:decide (lo<=4469)=true:=by simpa using e1
    by_cases e2:4449<=hi'
    ·have d2:decide (4449<=hi')=true:=by simpa using e2
     go_wp2;go_quiet(fail);go_wp2;go_ret;exact⟨aE (HC.out (HB.out.2 (by omega))).symm,bP HBW.out _⟩
    have d2:decide (4449<=hi')=false:=by simpa using e2
    go_wp2;go_quiet(fail);go_wp2;go_roundw
    case rel=>exact⟨2,by omega,by omega,rfl,by have:=HG.out;omega,by have:=HG.out;omega,by have:=HG.out;omega,by have:=HG.out;omega,⟨_,rfl⟩⟩
    simp[intOf]
   have d1:decide (lo<=4469)=false:=by simpa using e1
   go_wp2;go_quiet(fail);go_wp2;go_roundw
   case rel=>exact⟨2,by omega,by omega,rfl,by have:=HG.out;omega,by have:=HG.out;omega,by have:=HG.out;omega,by have:=HG.out;omega,⟨_,rfl⟩⟩
   simp[intOf]
  ·by_cases e1:lo<=4546
   ·have d1:decide (lo<=4546)=true:=by simpa using e1
    by_cases e2:4520<=hi'
    ·have d2:decide (4520<=hi')=true:=by simpa using e2
     go_wp2;go_quiet(fail);go_wp2;go_ret;exact⟨aE (HC.out (HB.out.2 (by omega))).symm,bP HBW.out _⟩
    have d2:decide (4520<=hi')=false:=by simpa using e2
    go_wp2;go_quiet(fail);go_wp2;go_roundw
    case rel=>exact⟨3,by omega,by omega,rfl,by have:=HG.out;omega,by have:=HG.out;omega,by have:=HG.out;omega,by have:=HG.out;omega,⟨_,rfl⟩⟩
    simp[intOf]
   have d1:decide (lo<=4546)=false:=by simpa using e1
   go_wp2;go_quiet(fail);go_wp2;go_roundw
   case rel=>exact⟨3,by omega,by omega,rfl,by have:=HG.out;omega,by have:=HG.out;omega,by have:=HG.out;omega,by have:=HG.out;omega,⟨_,rfl⟩⟩
   simp[intOf]
  ·by_cases e1:lo<=55203
   ·have d1:decide (lo<=55203)=true:=by simpa using e1
    by_cases e2:44032<=hi'
    ·have d2:decide (44032<=hi')=true:=by simpa using e2
     go_wp2;go_quiet(fail);go_wp2;go_ret;exact⟨aE (HC.out (HB.out.2 (by omega))).symm,bP HBW.out _⟩
    have d2:decide (44032<=hi')=false:=by simpa using e2
    go_wp2;go_quiet(fail);go_wp2;go_roundw
    case rel=>exact⟨4,by omega,by omega,rfl,by have:=HG.out;omega,by have:=HG.out;omega,by have:=HG.out;omega,by have:=HG.out;omega,⟨_,rfl⟩⟩
    simp[intOf]
   have d1:decide (lo<=55203)=false:=by simpa using e1
   go_wp2;go_quiet(fail);go_wp2;go_roundw
   case rel=>exact⟨4,by omega,by omega,rfl,by have:=HG.out;omega,by have:=HG.out;omega,by have:=HG.out;omega,by have:=HG.out;omega,⟨_,rfl⟩⟩
   simp[intOf]
  go_wp2;go_roundw
  case rel=>exact⟨i+1,by omega,by go_num,HN.out (fun h=>by have h1:=HB.out.1 h;have h2:=HG.out;omega),bP hbel4 _⟩
  simp[intOf];omega
 have HC:=G (v_ (ss:=ss) H1'.out H2'.out (fun t ht=>H3.out t ht (by omega)));go_wp2;go_ret;exact⟨aE HC.out.symm,hbel3⟩
def us(ss:List Spn):List Spn:=if chk ss=0 then ss else []
def clz(ss:List Spn)(c:Int):Int:=cls (us ss) c
theorem nU{ss:List Spn}(h:chk ss=0):us ss=ss:=by unfold us;rw[if_pos h]
theorem qH{ss:List Spn}(h:¬chk ss=0):us ss=[]:=by unfold us;rw[if_neg h]
theorem DV(ss:List Spn):(us ss).length<=ss.length:=by unfold us;split<;>simp
theorem DU(ss:List Spn):Asc (us ss):=by
 by_cases h:chk ss=0
 ·rw[nU h];exact vP h
 rw[qH h];exact Asc.nil
theorem JJ{ss:List Spn}(h:∀t,(ht:t<ss.length)->¬eI ss[t])(c:Int):0<=cls ss c/\cls ss c<=254:=by
 induction ss with
 |nil=>simp[cls]
 |cons s r ih=>
  unfold cls;split
  ·have:=h 0 (by simp)
   simp only[List.getElem_cons_zero]at this;unfold eI at this;omega
  exact ih fun t ht=>by
   have:=h (t+1) (by simpa using ht);simpa using this
theorem wH(ss:List Spn)(c:Int):0<=clz ss c/\clz ss c<=254:=by
 unfold clz;by_cases h:chk ss=0
 ·rw[nU h];exact JJ (wD h).1 c
 rw[qH h];simp[cls]
def FQ(ss:List Spn)(w:Wv)(e:Ending)(w':Wv):Prop:=∃A k,e=.returned (H A ss.length k)/\aZ w' A ss/\By w w'
theorem DW(A:Oa)(n k:Nat)(ss:List Spn)(w:Wv)(hA:aZ w A ss)(hn:ss.length=n)(hbig:n<=1099511627776)(hL:dL w):
  Calls prog 104 #[H A n k] w (FQ (us ss) w):=by
 subst hn;have C:=G (uO A ss.length k ss w hA rfl hbig hL);clear hL;by_cases h:chk ss=0
 ·rw[nU h]
  rw[h]at C;clear h;go_enter func104,ntmps104;go_wp2_with fail;refine C.out.mono ?_;rintro e w1 ⟨rfl,hb1⟩;go_wp2_with fail;go_ret;exact⟨A,k,rfl,hA.below hb1,hb1⟩
 rw[qH h];have hne:(chk ss !=0)=true:=by simpa using h
 generalize chk ss=z at *;clear h;go_enter func104,ntmps104;go_wp2_with fail;refine C.out.mono ?_;rintro e w1 ⟨rfl,hb1⟩;go_wp2_with fail;go_ret;exact⟨N,0,rfl,Sl.nil _ _,hb1⟩
theorem JI(ss:List Spn)(c:Int)(i:Nat)(h:i<ss.length):cls (ss.drop i) c=if ss[i].lo<=c/\c<=ss[i].hi then ss[i].val else cls (ss.drop (i+1)) c:=by
 rw[List.drop_eq_getElem_cons h];rfl
theorem pW(A:Oa)(n k:Nat)(ss:List Spn)(c:Int)(w:Wv)(hA:aZ w A ss)(hn:ss.length=n)(hbig:n<=1099511627776):
  Calls prog 78 #[H A n k,I J c] w (cA (clz ss c) w):=by
 subst hn;have C:=G (AK A ss.length k ss w hA rfl hbig);unfold clz;by_cases h:chk ss=0
 ·rw[nU h]
  rw[h]at C;clear h;go_enter func78,ntmps78;go_wp2_with fail;refine C.out.mono ?_;rintro e w1 ⟨rfl,hb1⟩;go_wp2_with fail;go_loop [5] (fun u=>∃i:Nat,i<=ss.length/\u=I J i/\cls ss c=cls (ss.drop i) c) (fun u=>ss.length-(intOf u).toNat)
  case atStart=>exact⟨0,Nat.zero_le _,rfl,rfl⟩
  obtain⟨i,hi,rfl,hc⟩:=hrel;have HC:=G hc;clear hc;by_cases hlt:i<ss.length
  ·obtain⟨b,o,rfl,hbl,hcell⟩:=(hA.below hb1).at hlt
   obtain⟨c1,c2,c3⟩:=hcell i hlt;clear hcell;have HD:=G (JI ss c i hlt);generalize ss[i].lo=lo at *;generalize ss[i].hi=hi' at *;generalize ss[i].val=v at *;by_cases t1:lo<=c
   ·by_cases t2:c<=hi'
    ·go_wp2
     go_ret;exact⟨aE (by rw[HC.out,HD.out,if_pos ⟨t1,t2⟩]),hb1⟩
    go_wp2;go_round
    case rel=>exact⟨i+1,by omega,by go_num,by rw[HC.out,HD.out,if_neg (by omega)]⟩
    simp[intOf];omega
   go_wp2;go_round
   case rel=>exact⟨i+1,by omega,by go_num,by rw[HC.out,HD.out,if_neg (by omega)]⟩
   simp[intOf];omega
  have HD:=G (show cls (ss.drop i) c=0 by rw[List.drop_eq_nil_of_le (by omega)];rfl);go_wp2;go_ret;exact⟨aE (by rw[HC.out,HD.out]),hb1⟩
 rw[qH h];have hne:(chk ss !=0)=true:=by simpa using h
 generalize chk ss=z at *;clear h;go_enter func78,ntmps78;go_wp2_with fail;refine C.out.mono ?_;rintro e w1 ⟨rfl,hb1⟩;go_wp2_with fail;go_ret;exact⟨rfl,hb1⟩
theorem WQ(A:Oa)(n k:Nat)(ss:List Spn)(c:Int)(w:Wv)(hA:aZ w A ss)(hn:ss.length=n)(hbig:n<=1099511627776):
  Calls prog 174 #[H A n k,I J c] w (fH (clz ss c==0) w):=by
 have U:=G (pW A n k ss c w hA hn hbig);clear hA hn;generalize clz ss c=z at *;go_enter func174,ntmps174;go_wp2_with fail;refine U.out.mono ?_;rintro e w1 ⟨rfl,hb1⟩;go_wp2_with fail;go_ret;exact⟨rfl,hb1⟩
theorem GA(A:Oa)(n k:Nat)(w:Wv):Calls prog 54 #[H A n k] w fun e w'=>e=.returned (.bool (decide (n<=16)))/\w=w':=by
 go_enter func54,ntmps54;go_wp2_with fail;go_ret;refine⟨dK ?_,rfl⟩;rw[Bool.eq_iff_iff];simp;omega
end
section
def rns(cl:Int->Int):Li->Nat->Option Nat->List (Nat×Nat)
 | [],_,N=>[]
 | [],i,Z s=>[(s,i)]
 |c::r,i,N=>if cl c=0 then rns cl r (i+1) N else rns cl r (i+1) (Z i)
 |c::r,i,Z s=>if cl c=0 then(s,i)::rns cl r (i+1) N else rns cl r (i+1) (Z s)
theorem YK(cl:Int->Int)(l:Li)(i:Nat)(s:Option Nat):(rns cl l i s).length<=l.length+1:=by
 induction l generalizing i s with
 |nil=>cases s<;>simp[rns]
 |cons c r ih=>
  cases s with
  |none=>
   simp only[rns];split
   ·have:=ih (i+1) N;simp;omega
   have:=ih (i+1) (Z i);simp;omega
  |some s=>
   simp only[rns];split
   ·have:=ih (i+1) N;simp;omega
   have:=ih (i+1) (Z s);simp;omega
theorem YL(cl:Int->Int)(l:Li)(i:Nat):(rns cl l i N).length<=l.length:=by
 induction l generalizing i with
 |nil=>simp[rns]
 |cons c r ih=>
  simp only[rns];split
  ·have:=ih (i+1);simp;omega
  have:=YK cl r (i+1) (Z i);simp;omega
def stv:Option Nat->Int
 |none=>-1
 |some s=>s
theorem YM(cl:Int->Int)(l:Li)(k:Nat)(h:k<l.length)(s:Option Nat):
  rns cl (l.drop k) k s=match s with
   |none=>if cl l[k]=0 then rns cl (l.drop (k+1)) (k+1) N else rns cl (l.drop (k+1)) (k+1) (Z k)
   |some s=>if cl l[k]=0 then(s,k)::rns cl (l.drop (k+1)) (k+1) N else rns cl (l.drop (k+1)) (k+1) (Z s):=by
 rw[List.drop_eq_getElem_cons h];cases s<;>rfl
theorem YI(cl:Int->Int)(l:Li)(k:Nat)(h:l.length<=k)(s:Option Nat):rns cl (l.drop k) k s=match s with|none=>[]|some s=>[(s,k)]:=by
 rw[List.drop_eq_nil_of_le h];cases s<;>rfl
end
end Go.Proofs.YtpfbnikbebccjaaGreatDoor
