/- Texts that are merged into one file: MeasP, Meas, OClass, OCheck, ORefCheck, OClassB, ORunsPlain, NormCk. -/
import Derived.Test.YtijgbonhjcblcaaGreatDoorK01
import Derived.Test.YtijgbonhjcblcaaGreatDoorK02
import Derived.Test.YtijgbonhjcblcaaGreatDoorK05
import Derived.Test.YtijgbonhjcblcaaGreatDoorProg
import Derived.Outline
import Derived.RegionTactic
import Derived.BigRegion
import Derived.Deep.Light
import Derived.Deep.QuietTactic
import Derived.BigQuiet
set_option maxRecDepth 100000
set_option maxHeartbeats 51200000
namespace Go.Proofs.YtijgbonhjcblcaaGreatDoor
open Go.RowKit
def NoHg (ms:List Mp):Prop:=∀i,(hi:i < ms.length)→Hg.kind ms[i].frm=0
structure MeasOk (ms:List Mp) (cyc lng:Bool):Prop where
 cy:cyc=true→∃x,Path (onM ms true) x x
 ends:cyc=false→∀i,(hi:i < ms.length)→∃v,Sz (onM ms true) capE ms[i].frm v
 lg:cyc=false→(lng=true ↔ ∃i,∃hi:i < ms.length,∃v,Sz (onM ms true) capE ms[i].frm v∧mxE < v)
theorem frmM_at {ms:List Mp} {i:Nat} (hi:i < ms.length):frmM ms i=ms[i].frm:=by simp [frmM,List.getD,hi]
theorem toM_at {ms:List Mp} {i:Nat} (hi:i < ms.length):toM ms i=ms[i].to:=by simp [toM,List.getD,hi]
theorem onM_frm {ms:List Mp} (hs:StF ms) (hh:NoHg ms) (compat:Bool) {i:Nat} (hi:i < ms.length):onM ms compat ms[i].frm=if compat=true∨ms[i].tag.size=0 then some ms[i].to else none:=by
 unfold onM
 rw [if_neg (by rw [hh i hi];omega),fndM_some hs hi rfl]
 split
 ·rw [Option.map_some,toM_at hi]
 ·rfl
theorem onM_none_kind {ms:List Mp} (hh:NoHg ms) (compat:Bool) {e:Int} (h1:1≤Hg.kind e) (h2:Hg.kind e < 4):onM ms compat e=none:=by
 unfold onM
 rw [if_neg (by omega),fndM_none,Option.map_none]
 intro i hi he
 have:=hh i hi
 rw [he] at this
 omega
theorem capSum_ones (n:Nat) (h:(n:Int)≤capE):capSum capE (List.replicate n 1)=n:=by
 rw [capSum_eq (fun v hv=>by rw [List.eq_of_mem_replicate hv];omega) (by unfold capE;omega)]
 have:∀n:Nat,(List.replicate n (1:Int)).sum=n:=by
  intro n
  induction n with
  | zero=>rfl
  | succ n ih=>rw [List.replicate_succ,List.sum_cons,ih];omega
 rw [this]
 omega
theorem Sz_no {ms:List Mp} (hh:NoHg ms) (compat:Bool) {e:Int} (h:fndM ms compat e=none):Sz (onM ms compat) capE e (dlM e):=by
 by_cases h4:4≤Hg.kind e
 ·obtain ⟨d1,d2⟩:=decomp_kids h4
  have hon:onM ms compat e=some (Hg.decomp e):=if_pos h4
  have hne:Hg.decomp e≠[]:=by
   have h5:=(Hg.kind_range e).2
   by_cases h44:Hg.kind e=4
   ·rw [decomp_2 h44];simp
   ·rw [decomp_3 (by omega)];simp
  have:=Sz.node (on:=onM ms compat) (cap:=capE) (vs:=List.replicate (Hg.decomp e).length 1) hon hne (by simp) (fun i h1 h2=>by
   rw [List.getElem_replicate]
   obtain ⟨_,g2,g3⟩:=d2 _ (List.getElem_mem h1)
   refine .leaf (.inl (onM_none_kind hh compat g3 ?_))
   unfold hk at g2
   split at g2
   ·cases g2
   ·omega)
  rw [capSum_ones _ (by unfold capE;omega)] at this
  exact this
 ·have hd:dlM e=1:=by unfold dlM;rw [decomp_no (by omega)];rfl
  rw [hd]
  refine .leaf (.inl ?_)
  unfold onM
  rw [if_neg h4,h]
  rfl
theorem maps1 {ms:List Mp} (hs:StF ms) (hh:NoHg ms) (compat:Bool):Maps1 ms.length (frmM ms) (toM ms) (fndM ms compat) dlM capE (onM ms compat) (skipM ms compat):=by
 refine ⟨by unfold capE;omega,fun i hi hk=>?_,fun i hi hk=>?_,fun e m h=>?_,fun e h=>Sz_no hh compat h⟩
 ·rw [frmM_at hi,onM_frm hs hh compat hi,toM_at hi,if_pos]
  unfold skipM at hk
  cases compat <;> simp_all [List.getD]
 ·rw [frmM_at hi,onM_frm hs hh compat hi,if_neg]
  unfold skipM at hk
  cases compat <;> simp_all [List.getD]
 ·obtain ⟨hi,h1,_⟩:=fndM_at h
  exact ⟨hi,by rw [frmM_at hi];exact h1⟩
theorem long_frm {ms:List Mp} (hh:NoHg ms) {c v:Int} (h:Sz (onM ms true) capE c v) (hv:mxE < v):∃i,∃hi:i < ms.length,ms[i].frm=c:=by
 cases hf:fndM ms true c with
 | some i=>obtain ⟨hi,h1,_⟩:=fndM_at hf;exact ⟨i,hi,h1⟩
 | none=>
  have h1:=h.func (Sz_no hh true hf)
  subst h1
  exfalso
  unfold dlM mxE at hv
  by_cases h4:4≤Hg.kind c
  ·have:=(decomp_kids h4).1;omega
  ·rw [decomp_no (by omega)] at hv;simp at hv
theorem MeasOk.of {ms:List Mp} {mk:Int→Option Int} {cyc lng:Bool} (hs:StF ms) (hh:NoHg ms) (h:DInv (onM ms true) capE mxE mk cyc lng) (hf:∀x,mk x≠some (-1)) (hm:∀i,(hi:i < ms.length)→ms[i].to≠[]→∃k,mk ms[i].frm=some k):MeasOk ms cyc lng:=by
 have hon:=fun i (hi:i < ms.length)=>(onM_frm hs hh true hi).trans (if_pos (.inl rfl))
 have hsz:cyc=false→∀i,(hi:i < ms.length)→∃v,Sz (onM ms true) capE ms[i].frm v∧(mk ms[i].frm=some v∨v=1):=fun hc i hi=>by
  by_cases ht:ms[i].to=[]
  ·exact ⟨1,.leaf (.inr (by rw [hon i hi,ht])),.inr rfl⟩
  ·obtain ⟨k,hk⟩:=hm i hi ht
   exact ⟨k,h.fin hc _ k hk (fun e=>hf _ (by rw [hk,e])),.inl hk⟩
 refine ⟨h.cy,fun hc i hi=>?_,fun hc=>⟨fun hl=>?_,?_⟩⟩
 ·obtain ⟨v,h1,_⟩:=hsz hc i hi;exact ⟨v,h1⟩
 ·obtain ⟨c,k,h1,h2⟩:=h.lg1 hl
  have h3:=h.fin hc c k h1 (by unfold mxE at h2;omega)
  obtain ⟨i,hi,he⟩:=long_frm hh h3 h2
  subst he
  exact ⟨i,hi,k,h3,h2⟩
 ·rintro ⟨i,hi,v,h1,h2⟩
  obtain ⟨v',g1,g2⟩:=hsz hc i hi
  have:=h1.func g1
  subst this
  rcases g2 with g2 | g2
  ·exact h.lg2 _ v g2 h2
  ·unfold mxE at h2;omega
theorem Sz_le {ms:List Mp} (hs:StF ms) {c v:Int} (h:Sz (onM ms true) capE c v):∃u,Sz (onM ms false) capE c u∧u≤v:=by
 have hsub:∀c to,onM ms false c=some to→onM ms true c=some to:=fun c to h=>by
  unfold onM at h ⊢
  split
  ·next h4=>rw [if_pos h4] at h;exact h
  ·next h4=>
   rw [if_neg h4] at h
   cases hf:fndM ms false c with
   | none=>rw [hf] at h;cases h
   | some i=>
    obtain ⟨hi,h1,_⟩:=fndM_at hf
    rw [hf] at h
    rw [fndM_some hs hi h1,if_pos (.inl rfl)]
    exact h
 have hcap:(1:Int)≤capE:=by unfold capE;omega
 induction h with
 | @leaf c h=>
  refine ⟨1,.leaf ?_,by omega⟩
  cases hf:onM ms false c with
  | none=>exact .inl rfl
  | some to=>
   right
   rcases h with h | h
   ·rw [hsub c to hf] at h;cases h
   ·rw [hsub c to hf] at h;exact h
 | @node c to vs h1 h2 h3 h4 ih=>
  cases hf:onM ms false c with
  | none=>exact ⟨1,.leaf (.inl hf),(Sz.bd hcap (Sz.node h1 h2 h3 h4)).1⟩
  | some to'=>
   have:=hsub c to' hf
   rw [h1] at this
   injection this with this
   subst this
   have hch:∀i:Nat,∃u:Int,∀(hi:i < to.length) (hv:i < vs.length),Sz (onM ms false) capE to[i] u∧u≤vs[i]:=fun i=>by
    by_cases hi:i < to.length
    ·obtain ⟨u,g1,g2⟩:=ih i hi (by omega)
     exact ⟨u,fun _ _=>⟨g1,g2⟩⟩
    ·exact ⟨0,fun h=>absurd h hi⟩
   refine ⟨capSum capE ((List.range to.length).map (fun i=>(hch i).choose)),.node hf h2 (by simp) (fun i h1 h2=>?_),?_⟩
   ·simp only [List.getElem_map,List.getElem_range]
    exact ((hch i).choose_spec h1 (by omega)).1
   ·have hmono:∀(a b:List Int),a.length=b.length→(∀i,(h1:i < a.length)→(h2:i < b.length)→a[i]≤b[i])→∀s t:Int,s≤t→a.foldl (fun s v=>min (s+v) capE) s≤b.foldl (fun s v=>min (s+v) capE) t:=by
     intro a
     induction a with
     | nil=>intro b hl _ s t hst;cases b with | nil=>exact hst | cons _ _=>simp at hl
     | cons x a iha=>
      intro b hl hle s t hst
      cases b with
      | nil=>simp at hl
      | cons y b=>
       have h0:=hle 0 (by simp) (by simp)
       simp only [List.getElem_cons_zero] at h0
       refine iha b (by simpa using hl) (fun i g1 g2=>?_) _ _ (by dsimp only;omega)
       have:=hle (i+1) (by simp;omega) (by simp;omega)
       simpa using this
    refine hmono _ _ (by simp [h3]) (fun i g1 g2=>?_) 0 0 (by omega)
    simp only [List.getElem_map,List.getElem_range]
    simp at g1
    exact ((hch i).choose_spec g1 g2).2
end Go.Proofs.YtijgbonhjcblcaaGreatDoor
namespace Go.Proofs.YtijgbonhjcblcaaGreatDoor
open Go.RowKit Go.Maps Go.WideMaps
theorem load_bool (W:World) (a:Addr) (x:Bool) (h:W.cell? a=some (.bool x)):(loadVar 4 a).run Tryz.prog W=.ok (.bool x) W:=by
 have hu:=Tryz.underlying4
 simp only [loadVar,isAgg,Sem.run_bind,run_underlying hu,Result.andThen_ok,Sem.run_pure]
 simp [run_load,h]
theorem results_cell2 {fn:Func} {p q:Tmp} {t u:TypeId} (h:fn.results=#[.cell p t,.cell q u]) (tmps:Array Value) (P:Program) (w:World) {a b:Addr} {x y:Value} (ha:tmps.getD p undef=.pointer (some a)) (hb:tmps.getD q undef=.pointer (some b))
  (hx:(loadVar t a).run P w=.ok x w) (hy:(loadVar u b).run P w=.ok y w):(results fn tmps).run P w=.ok (.tuple #[x,y]) w:=by
 rw [Array.getD_eq_getD_getElem?] at ha hb
 simp only [results,h]
 simp [Sem.run_bind,Result.andThen,ha,hb,asAddr,hx,hy]
theorem DInv_none (on:Int→Option (List Int)) (cap mx:Int):DInv on cap mx (fun _=>none) false false:=⟨fun _ _ h=>(by cases h),fun _ _ _ h=>(by cases h),fun h=>(by cases h),fun h=>(by cases h),fun _ _ h=>(by cases h),fun _ _ h=>(by cases h)⟩
def RetMeas (ms:List Mp) (w:World) (e:Ending) (w':World):Prop:=∃cyc lng,e=.returned (.tuple #[.bool cyc,.bool lng])∧MeasOk ms cyc lng∧Below w.heap.size w w'
theorem unmarked_len (fs:List Int) (mk:Int→Option Int):unmarked fs mk≤fs.length:=List.length_filter_le _ _
theorem MS_new (A0:Option Addr) (n0 k0:Nat) (A1:Option Addr) (n1 k1:Nat) (A2:Option Addr) (n2 k2:Nat) (w:World):MS A0 n0 k0 A1 n1 k1 A2 n2 k2 w.heap.size (((((((w).alloc (.cells #[.slice A0 n0 k0,.slice A1 n1 k1,.slice A2 n2 k2] 28)).alloc (.cells #[.bool false] 4)).alloc (.cells #[.bool false] 4)).alloc (.map #[] 0)).alloc (.cells #[.map (some (w.heap.size+1+1+1))] 182)).alloc (.cells #[.func (.func 137) #[] #[.pointer (some ⟨w.heap.size,0,none⟩),.pointer (some ⟨w.heap.size+1+1+1+1,0,none⟩),.pointer (some ⟨w.heap.size+1,0,none⟩),.pointer (some ⟨w.heap.size+1+1+1+1+1,0,none⟩),.pointer (some ⟨w.heap.size+1+1,0,none⟩)]] 81)) 0 (fun _=>none) false false∧Below w.heap.size w (((((((w).alloc (.cells #[.slice A0 n0 k0,.slice A1 n1 k1,.slice A2 n2 k2] 28)).alloc (.cells #[.bool false] 4)).alloc (.cells #[.bool false] 4)).alloc (.map #[] 0)).alloc (.cells #[.map (some (w.heap.size+1+1+1))] 182)).alloc (.cells #[.func (.func 137) #[] #[.pointer (some ⟨w.heap.size,0,none⟩),.pointer (some ⟨w.heap.size+1+1+1+1,0,none⟩),.pointer (some ⟨w.heap.size+1,0,none⟩),.pointer (some ⟨w.heap.size+1+1+1+1+1,0,none⟩),.pointer (some ⟨w.heap.size+1+1,0,none⟩)]] 81)):=by
 have h1:Box ((w).alloc (.cells #[.slice A0 n0 k0,.slice A1 n1 k1,.slice A2 n2 k2] 28)) w.heap.size 28 [.slice A0 n0 k0,.slice A1 n1 k1,.slice A2 n2 k2]:=Box.new _ _ _ rfl
 have h2:Box (((w).alloc (.cells #[.slice A0 n0 k0,.slice A1 n1 k1,.slice A2 n2 k2] 28)).alloc (.cells #[.bool false] 4)) (w.heap.size+1) 4 [.bool false]:=Box.new _ _ _ (by simp)
 have h3:Box ((((w).alloc (.cells #[.slice A0 n0 k0,.slice A1 n1 k1,.slice A2 n2 k2] 28)).alloc (.cells #[.bool false] 4)).alloc (.cells #[.bool false] 4)) (w.heap.size+2) 4 [.bool false]:=Box.new _ _ _ (by simp)
 have h4:MapI (((((w).alloc (.cells #[.slice A0 n0 k0,.slice A1 n1 k1,.slice A2 n2 k2] 28)).alloc (.cells #[.bool false] 4)).alloc (.cells #[.bool false] 4)).alloc (.map #[] 0)) (w.heap.size+3) 0 (fun _=>none):=by
  have:=MapIs.made Tryz.prog 3 ikey iok ((((w).alloc (.cells #[.slice A0 n0 k0,.slice A1 n1 k1,.slice A2 n2 k2] 28)).alloc (.cells #[.bool false] 4)).alloc (.cells #[.bool false] 4))
  simpa using this
 have h5:Box ((((((w).alloc (.cells #[.slice A0 n0 k0,.slice A1 n1 k1,.slice A2 n2 k2] 28)).alloc (.cells #[.bool false] 4)).alloc (.cells #[.bool false] 4)).alloc (.map #[] 0)).alloc (.cells #[.map (some (w.heap.size+1+1+1))] 182)) (w.heap.size+4) 182 [.map (some (w.heap.size+1+1+1))]:=Box.new _ _ _ (by simp)
 have h6:Box (((((((w).alloc (.cells #[.slice A0 n0 k0,.slice A1 n1 k1,.slice A2 n2 k2] 28)).alloc (.cells #[.bool false] 4)).alloc (.cells #[.bool false] 4)).alloc (.map #[] 0)).alloc (.cells #[.map (some (w.heap.size+1+1+1))] 182)).alloc (.cells #[.func (.func 137) #[] #[.pointer (some ⟨w.heap.size,0,none⟩),.pointer (some ⟨w.heap.size+1+1+1+1,0,none⟩),.pointer (some ⟨w.heap.size+1,0,none⟩),.pointer (some ⟨w.heap.size+1+1+1+1+1,0,none⟩),.pointer (some ⟨w.heap.size+1+1,0,none⟩)]] 81)) (w.heap.size+5) 81 [.func (.func 137) #[] #[.pointer (some ⟨w.heap.size,0,none⟩),.pointer (some ⟨w.heap.size+1+1+1+1,0,none⟩),.pointer (some ⟨w.heap.size+1,0,none⟩),.pointer (some ⟨w.heap.size+1+1+1+1+1,0,none⟩),.pointer (some ⟨w.heap.size+1+1,0,none⟩)]]:=Box.new _ _ _ (by simp)
 have al:∀(W:World) (o:Obj),Below W.heap.size W (W.alloc o):=fun W o=>(Below.refl _ _).alloc (Nat.le_refl _) _
 have b2:=al ((w).alloc (.cells #[.slice A0 n0 k0,.slice A1 n1 k1,.slice A2 n2 k2] 28)) (.cells #[.bool false] 4)
 have b3:=al (((w).alloc (.cells #[.slice A0 n0 k0,.slice A1 n1 k1,.slice A2 n2 k2] 28)).alloc (.cells #[.bool false] 4)) (.cells #[.bool false] 4)
 have b4:=al ((((w).alloc (.cells #[.slice A0 n0 k0,.slice A1 n1 k1,.slice A2 n2 k2] 28)).alloc (.cells #[.bool false] 4)).alloc (.cells #[.bool false] 4)) (.map #[] 0)
 have b5:=al (((((w).alloc (.cells #[.slice A0 n0 k0,.slice A1 n1 k1,.slice A2 n2 k2] 28)).alloc (.cells #[.bool false] 4)).alloc (.cells #[.bool false] 4)).alloc (.map #[] 0)) (.cells #[.map (some (w.heap.size+1+1+1))] 182)
 have b6:=al ((((((w).alloc (.cells #[.slice A0 n0 k0,.slice A1 n1 k1,.slice A2 n2 k2] 28)).alloc (.cells #[.bool false] 4)).alloc (.cells #[.bool false] 4)).alloc (.map #[] 0)).alloc (.cells #[.map (some (w.heap.size+1+1+1))] 182)) (.cells #[.func (.func 137) #[] #[.pointer (some ⟨w.heap.size,0,none⟩),.pointer (some ⟨w.heap.size+1+1+1+1,0,none⟩),.pointer (some ⟨w.heap.size+1,0,none⟩),.pointer (some ⟨w.heap.size+1+1+1+1+1,0,none⟩),.pointer (some ⟨w.heap.size+1+1,0,none⟩)]] 81)
 refine ⟨⟨?_,?_,?_,?_,?_,?_⟩,?_⟩
 ·exact ((((h1.below b2 h1.lt).below b3 (h1.below b2 h1.lt).lt).below b4 (by simp <;> omega)).below b5 (by simp <;> omega)).below b6 (by simp <;> omega)
 ·exact (((h2.below b3 h2.lt).below b4 (by simp <;> omega)).below b5 (by simp <;> omega)).below b6 (by simp <;> omega)
 ·exact ((h3.below b4 h3.lt).below b5 (by simp <;> omega)).below b6 (by simp <;> omega)
 ·exact (h4.below b5).below b6
 ·exact h5.below b6 h5.lt
 ·exact h6
 ·exact ((((((Below.refl _ _).alloc (Nat.le_refl _) _).alloc (by simp) _).alloc (by simp <;> omega) _).alloc (by simp <;> omega) _).alloc (by simp <;> omega) _).alloc (by simp <;> omega) _
theorem measure_any (A0:Option Addr) (n0 k0:Nat) (A1:Option Addr) (n1 k1:Nat) (A2:Option Addr) (n2 k2:Nat) (ms:List Mp) (w:World) (hA:Mps w A1 ms) (hn:ms.length=n1) (hst:StF ms) (hco:CodesOk ms) (hh:NoHg ms) (hbig:n1≤1048576) :
  Calls Tryz.prog 95 #[.agg #[.slice A0 n0 k0,.slice A1 n1 k1,.slice A2 n2 k2]] w (RetMeas ms w):=by
 subst hn
 have SZ:=Lib.hid (size_ok A0 n0 k0 A1 k1 A2 n2 k2 w.heap.size ms w rfl hA hst hco hbig)
 have OK:=Lib.hid (fun mk cyc lng=>MeasOk.of (mk:=mk) (cyc:=cyc) (lng:=lng) hst hh)
 have ON:=Lib.hid (fun i (hi:i < ms.length)=>(onM_frm hst hh true hi).trans (if_pos (.inl rfl)))
 have HH:=Lib.hid (fun i (hi:i < ms.length)=>show hk ms[i].frm=0 from by unfold hk;rw [hh i hi];rfl)
 have CO:=Lib.hid (fun i (hi:i < ms.length)=>(hco i hi).1)
 clear hst hco hh
 have hmm:=@run_makeMap Tryz.prog
 have hsf:=fun (W:World) (a:Addr) (m:Mode) (fn:Fn) (x y:Array Value)=>run_store Tryz.prog W a (.func fn x y) m rfl
 go_enter Tryz.func95,Tryz.ntmps95
 go_wp2_with fail
 obtain ⟨W0,hW0⟩:∃W0,(((((((w).alloc (.cells #[.slice A0 n0 k0,.slice A1 ms.length k1,.slice A2 n2 k2] 28)).alloc (.cells #[.bool false] 4)).alloc (.cells #[.bool false] 4)).alloc (.map #[] 0)).alloc (.cells #[.map (some (w.heap.size+1+1+1))] 182)).alloc (.cells #[.func (.func 137) #[] #[.pointer (some ⟨w.heap.size,0,none⟩),.pointer (some ⟨w.heap.size+1+1+1+1,0,none⟩),.pointer (some ⟨w.heap.size+1,0,none⟩),.pointer (some ⟨w.heap.size+1+1+1+1+1,0,none⟩),.pointer (some ⟨w.heap.size+1+1,0,none⟩)]] 81))=W0:=⟨_,rfl⟩
 obtain ⟨hM0,hB0⟩:=MS_new A0 n0 k0 A1 ms.length k1 A2 n2 k2 w
 rw [hW0] at hM0 hB0 ⊢
 clear hW0 hmm hsf
 have HM0:=Lib.hid hM0;clear hM0
 go_loopw [7,13] (fun _ u wr=>∃(i n:Nat) (mk:Int→Option Int) (cyc lng:Bool),i≤ms.length∧u=.int .i64 i∧MS A0 n0 k0 A1 ms.length k1 A2 n2 k2 w.heap.size wr n mk cyc lng∧DInv (onM ms true) capE mxE mk cyc lng∧(∀x,mk x≠some (-1))∧n+200*unmarked (fsM ms) mk≤200*ms.length∧
   (∀t,(ht:t < ms.length)→t < i→ms[t].to≠[]→∃k,mk ms[t].frm=some k)∧Below w.heap.size w wr) (fun _ u _=>ms.length - (intOf u).toNat)
 case atStart=>
  refine ⟨0,0,_,false,false,Nat.zero_le _,rfl,HM0.out,DInv_none _ _ _,fun x h=>(by cases h),?_,fun t _ h=>absurd h (Nat.not_lt_zero _),hB0⟩
  have:=unmarked_len (fsM ms) (fun _=>none)
  unfold fsM at *
  rw [List.length_map] at this
  omega
 case round=>
  obtain ⟨i,n,mk,cyc,lng,hi,rfl,hMS,hDI,hfin,hpot,hmkd,hb⟩:=hrel
  have HMS:=Lib.hid hMS;have HDI:=Lib.hid hDI;have HFI:=Lib.hid hfin;have HPO:=Lib.hid hpot;have HMD:=Lib.hid hmkd
  clear hMS hDI hfin hpot hmkd
  by_cases hlt:i < ms.length
  ·obtain ⟨b,o,rfl,_,hcell⟩:=(hA.below hb).at hlt
   obtain ⟨E,d,c1,c2,c3,_,_⟩:=hcell i hlt
   clear hcell
   have HO:=Lib.hid (ON.out i hlt)
   have h0:=HH.out i hlt
   have hcd:=CO.out i hlt
   have HST:=Lib.hid (fun (mk':Int→Option Int) (he:DExt mk mk') (hm:ms[i].to≠[]→∃k,mk' ms[i].frm=some k)=>show ∀t,(ht:t < ms.length)→t < i+1→ms[t].to≠[]→∃k,mk' ms[t].frm=some k from fun t ht h1 h2=>by
    by_cases e:t=i
    ·subst e;exact hm h2
    ·obtain ⟨k,hk⟩:=HMD.out t ht (by omega) h2;exact ⟨k,he.old _ _ hk⟩)
   generalize ms[i].frm=f at *
   generalize ms[i].to=to at *
   generalize ms[i].tag=tg at *
   have hBa:Below wr.heap.size wr (wr.alloc (.cells #[.int .i64 f,.slice E to.length d,.string tg] 63)):=(Below.refl _ _).alloc (Nat.le_refl _) _
   have hbW:=hb.trans (hBa.mono hb.size)
   have hMW:=HMS.out.below hBa
   have p5:(wr.alloc (.cells #[.int .i64 f,.slice E to.length d,.string tg] 63)).cell? ⟨w.heap.size+1+1+1+1+1,0,none⟩=some (.func (.func 137) #[] #[.pointer (some ⟨w.heap.size,0,none⟩),.pointer (some ⟨w.heap.size+1+1+1+1,0,none⟩),.pointer (some ⟨w.heap.size+1,0,none⟩),.pointer (some ⟨w.heap.size+1+1+1+1+1,0,none⟩),.pointer (some ⟨w.heap.size+1+1,0,none⟩)]):=hMW.bS.cell rfl
   have q5:wr.cell? ⟨w.heap.size+1+1+1+1+1,0,none⟩=some (.func (.func 137) #[] #[.pointer (some ⟨w.heap.size,0,none⟩),.pointer (some ⟨w.heap.size+1+1+1+1,0,none⟩),.pointer (some ⟨w.heap.size+1,0,none⟩),.pointer (some ⟨w.heap.size+1+1+1+1+1,0,none⟩),.pointer (some ⟨w.heap.size+1+1,0,none⟩)]):=HMS.out.bS.cell rfl
   have CL:=Lib.hid (show Calls Tryz.prog 137 #[.int .i64 f,.pointer (some ⟨w.heap.size,0,none⟩),.pointer (some ⟨w.heap.size+1+1+1+1,0,none⟩),.pointer (some ⟨w.heap.size+1,0,none⟩),.pointer (some ⟨w.heap.size+1+1+1+1+1,0,none⟩),.pointer (some ⟨w.heap.size+1+1,0,none⟩)] (wr.alloc (.cells #[.int .i64 f,.slice E to.length d,.string tg] 63))
     (SzRet A0 n0 k0 _ ms.length k1 A2 n2 k2 w.heap.size ms f (wr.alloc (.cells #[.int .i64 f,.slice E to.length d,.string tg] 63)) n mk cyc) from
    SZ.out (2*unmarked (fsM ms) mk+1) f _ n mk cyc lng (by omega) hcd HDI.out (fun x h=>absurd h (HFI.out x)) hMW hbW (by have:=HPO.out;omega))
   clear hMW hBa
   go_wp2_with fail
   with_reducible refine CL.out.mono ?_
   rintro e W ⟨v,n',mk',cyc',lng',rfl,hp⟩
   have hbN:=hbW.trans hp.bel
   have RL:=Lib.hid (show MS A0 n0 k0 _ ms.length k1 A2 n2 k2 w.heap.size W n' mk' cyc' lng'∧DInv (onM ms true) capE mxE mk' cyc' lng'∧(∀x,mk' x≠some (-1))∧n'+200*unmarked (fsM ms) mk'≤200*ms.length∧(∀t,(ht:t < ms.length)→t < i+1→ms[t].to≠[]→∃k,mk' ms[t].frm=some k) from
    ⟨hp.st,hp.inv,fun x=>by
     cases hx:mk x with
     | none=>exact hp.ext.new x hx
     | some k=>intro h;have:=hp.ext.old x k hx;rw [h] at this;injection this with this;subst this;exact HFI.out x hx,
    by have:=hp.pot;have:=HPO.out;omega,HST.out mk' hp.ext (fun hne=>hp.mkd to HO.out hne)⟩)
   clear hp CL p5 q5
   go_wp2_with fail
   go_roundw
   case rel=>exact ⟨i+1,n',mk',cyc',lng',by omega,by go_num,RL.out.1,RL.out.2.1,RL.out.2.2.1,RL.out.2.2.2.1,RL.out.2.2.2.2,hbN⟩
   case measure=>simp [intOf];omega
  ·obtain rfl:i=ms.length:=by omega
   have MO:=Lib.hid (OK.out mk cyc lng HDI.out HFI.out (fun t ht h=>HMD.out t ht ht h))
   have e1:wr.cell? ⟨w.heap.size+1,0,none⟩=some (.bool cyc):=HMS.out.bC.cell rfl
   have e2:wr.cell? ⟨w.heap.size+1+1,0,none⟩=some (.bool lng):=HMS.out.bL.cell rfl
   have e3:wr.frozen? ⟨w.heap.size+1,0,none⟩=false:=HMS.out.bC.free 0
   have e4:wr.frozen? ⟨w.heap.size+1+1,0,none⟩=false:=HMS.out.bL.free 0
   go_wp2_with fail
   go_region
   all_goals
    go_wp2_with fail
    (try simp only [Exit.inBlock,Exit.then])
    refine bodyPost_ret (results_cell2 rfl _ _ _ rfl rfl (load_bool _ _ cyc ?_) (load_bool _ _ lng ?_)) rfl ?_
    ·go_simp
    ·go_simp
    ·exact ⟨cyc,lng,rfl,MO.out,((hb.setCell (by simp) _).setCell (by simp;omega) _).drew⟩
end Go.Proofs.YtijgbonhjcblcaaGreatDoor
namespace Go.Proofs.YtijgbonhjcblcaaGreatDoor
open Go.RowKit
def scmp (lo hi c:Int):Int:=if hi < c then -1 else if c < lo then 1 else 0
theorem classF_any (lo hi v c:Int) (w:World):Calls Tryz.prog 151 #[.agg #[.int .i64 lo,.int .i64 hi,.int .i64 v],.int .i64 c] w (RetInt (scmp lo hi c) w):=by
 unfold scmp
 by_cases h1:hi < c
 ·rw [if_pos h1]
  go_enter Tryz.func151,Tryz.ntmps151
  go_wp2
  go_ret
  exact ⟨rfl,(Below.refl _ _).alloc (Nat.le_refl _) _⟩
 ·rw [if_neg h1]
  by_cases h2:c < lo
  ·rw [if_pos h2]
   go_enter Tryz.func151,Tryz.ntmps151
   go_wp2
   go_ret
   exact ⟨rfl,(Below.refl _ _).alloc (Nat.le_refl _) _⟩
  ·rw [if_neg h2]
   go_enter Tryz.func151,Tryz.ntmps151
   go_wp2
   go_ret
   exact ⟨rfl,(Below.refl _ _).alloc (Nat.le_refl _) _⟩
def Srch (ss:List Spn) (c:Int) (i:Nat) (found:Bool):Prop:=
 i≤ss.length∧(∀t,(ht:t < ss.length)→t < i→ss[t].hi < c)∧(∀t,(ht:t < ss.length)→i≤t→c≤ss[t].hi)∧found=decide (∃h:i < ss.length,ss[i].lo≤c)
def RetSrch (ss:List Spn) (c:Int) (w:World) (e:Ending) (w':World):Prop:=∃(i:Nat) (f:Bool),e=.returned (.tuple #[.int .i64 i,.bool f])∧Srch ss c i f∧Below w.heap.size w w'
theorem bsearch_any (A:Option Addr) (n k:Nat) (ss:List Spn) (c:Int) (w:World) (hA:Spans w A ss) (hn:ss.length=n) (hbig:n≤1099511627776) (hasc:Asc ss) :
  Calls Tryz.prog 150 #[.slice A n k,.int .i64 c,.func (.func 151) #[] #[]] w (RetSrch ss c w):=by
 subst hn
 have HS:=Lib.hid hasc;clear hasc
 go_enter Tryz.func150,Tryz.ntmps150
 go_wp2
 go_loopw [9,10] (fun u v wr=>∃i j:Nat,i≤j∧j≤ss.length∧u=.int .i64 i∧v=.int .i64 j∧(∀t,(ht:t < ss.length)→t < i→ss[t].hi < c)∧(∀t,(ht:t < ss.length)→j≤t→c≤ss[t].hi)∧Below w.heap.size w wr)
  (fun u v _=>(intOf v).toNat - (intOf u).toNat)
 case atStart=>exact ⟨0,ss.length,Nat.zero_le _,Nat.le_refl _,rfl,rfl,fun t _ h=>by omega,fun t h1 h2=>by omega,Below.refl _ _⟩
 case round=>
  obtain ⟨i,j,hij,hj,rfl,rfl,hlo,hhi,hbel⟩:=hrel
  have HLO:=Lib.hid hlo;have HHI:=Lib.hid hhi;clear hlo hhi
  by_cases hlt:i < j
  ·obtain ⟨h,hh,h1,h2,h3⟩:∃h:Nat,((i:Int)+(j:Int)) / 2=(h:Int)∧i≤h∧h < j∧h < ss.length:=⟨(i+j) / 2,by omega,by omega,by omega,by omega⟩
   obtain ⟨b,o,rfl,_,hcell⟩:=(hA.below hbel).at h3
   obtain ⟨c1,c2,c3⟩:=hcell h h3
   clear hcell
   have HO:=Lib.hid (fun t (ht:t < ss.length) (hth:t < h)=>(HS.out t h ht h3).2 hth)
   have HO2:=Lib.hid (fun t (ht:t < ss.length) (hth:h < t)=>(HS.out h t h3 ht).2 hth)
   have HO3:=Lib.hid (fun t (ht:t < ss.length)=>(HS.out t t ht ht).1)
   have HO4:=Lib.hid (HS.out h h h3 h3).1
   generalize hlo:ss[h].lo=lo at *
   generalize hhi:ss[h].hi=hi at *
   generalize ss[h].val=v at *
   have E1:=Lib.hid hlo;have E2:=Lib.hid hhi
   have C:=Lib.hid (classF_any lo hi v c)
   clear hlo hhi
   by_cases hk:hi < c
   ·have hsc:scmp lo hi c=-1:=by unfold scmp;rw [if_pos hk]
    rw [hsc] at C;clear hsc
    go_wp2_with (go_at_call 151;refine (C.out _).mono ?_;rintro e w1 ⟨rfl,hb1⟩)
    go_roundw
    case rel=>
     refine ⟨h+1,j,by omega,hj,by go_num,rfl,fun t ht g=>?_,HHI.out,hbel.trans (hb1.mono hbel.size)⟩
     by_cases e:t=h
     ·subst e;rw [E2.out];exact hk
     ·have a1:=HO.out t ht (by omega)
      have a2:=HO4.out
      omega
    case measure=>simp [intOf];omega
   ·have hsc:0≤scmp lo hi c:=by unfold scmp;rw [if_neg hk];split <;> omega
    generalize scmp lo hi c=sc at *
    go_wp2_with (go_at_call 151;refine (C.out _).mono ?_;rintro e w1 ⟨rfl,hb1⟩)
    go_roundw
    case rel=>
     refine ⟨i,h,h1,by omega,rfl,rfl,HLO.out,fun t ht g=>?_,hbel.trans (hb1.mono hbel.size)⟩
     by_cases e:t=h
     ·subst e;rw [E2.out];omega
     ·have a1:=HO2.out t ht (by omega)
      have a2:=HO3.out t ht
      omega
    case measure=>simp [intOf];omega
  ·obtain rfl:i=j:=by omega
   by_cases hend:i < ss.length
   ·obtain ⟨b,o,rfl,_,hcell⟩:=(hA.below hbel).at hend
    obtain ⟨c1,c2,c3⟩:=hcell i hend
    clear hcell
    have hci:=HHI.out i hend (Nat.le_refl _)
    have HF:=Lib.hid (show decide (∃h:i < ss.length,ss[i].lo≤c)=(scmp ss[i].lo ss[i].hi c==0) by
     rw [Bool.eq_iff_iff];simp only [decide_eq_true_eq,beq_iff_eq];unfold scmp;rw [if_neg (by omega)];split
     ·constructor
      ·rintro ⟨_,h⟩;omega
      ·intro h;omega
     ·exact ⟨fun _=>rfl,fun _=>⟨hend,by omega⟩⟩)
    clear hci
    generalize ss[i].lo=lo at *
    generalize ss[i].hi=hi at *
    generalize ss[i].val=v at *
    have C:=Lib.hid (classF_any lo hi v c)
    generalize scmp lo hi c=sc at *
    go_wp2_with (go_at_call 151;refine (C.out _).mono ?_;rintro e w1 ⟨rfl,hb1⟩)
    go_ret2
    refine ⟨i,_,rfl,⟨hj,HLO.out,HHI.out,?_⟩,hbel.trans (hb1.mono hbel.size)⟩
    exact HF.out.symm
   ·go_wp2_with fail
    go_ret2
    refine ⟨i,_,rfl,⟨hj,HLO.out,HHI.out,?_⟩,hbel⟩
    simp [hend]
theorem Srch.cls {ss:List Spn} {c:Int} {i:Nat} {f:Bool} (h:Srch ss c i f) (hasc:Asc ss):if f=true then ∃hi:i < ss.length,Go.Proofs.YtijgbonhjcblcaaGreatDoor.cls ss c=ss[i].val else Go.Proofs.YtijgbonhjcblcaaGreatDoor.cls ss c=0:=by
 obtain ⟨h1,h2,h3,h4⟩:=h
 by_cases e:∃g:i < ss.length,ss[i].lo≤c
 ·rw [if_pos (by rw [h4];simpa using e)]
  obtain ⟨g,hg⟩:=e
  exact ⟨g,cls_at ss c i g hasc hg (h3 i g (Nat.le_refl _))⟩
 ·rw [if_neg (by rw [h4];simpa using e)]
  refine cls_none ss c fun t ht hc=>?_
  by_cases e1:t < i
  ·have:=h2 t ht e1;omega
  ·by_cases e2:t=i
   ·subst e2;exact e ⟨ht,hc.1⟩
   ·have hi:i < ss.length:=by omega
    have a1:=(hasc i t hi ht).2 (by omega)
    have a2:=(hasc i i hi hi).1
    exact e ⟨hi,by omega⟩
theorem class_any (A:Option Addr) (n k:Nat) (ss:List Spn) (c:Int) (w:World) (hA:Spans w A ss) (hn:ss.length=n) (hbig:n≤1099511627776) (hasc:Asc ss) :
  Calls Tryz.prog 122 #[.slice A n k,.int .i64 c] w (RetInt (cls ss c) w):=by
 subst hn
 have C:=Lib.hid (bsearch_any A ss.length k ss c w hA rfl hbig hasc)
 have HS:=Lib.hid hasc
 clear hasc
 go_enter Tryz.func122,Tryz.ntmps122
 go_wp2_with fail
 refine C.out.mono ?_
 rintro e w1 ⟨i,f,rfl,hs,hb1⟩
 have h:=hs.cls HS.out
 cases f with
 | true=>
  rw [if_pos rfl] at h
  obtain ⟨hi,hcls⟩:=h
  obtain ⟨b,o,rfl,_,hcell⟩:=(hA.below hb1).at hi
  obtain ⟨c1,c2,c3⟩:=hcell i hi
  have HC:=Lib.hid hcls
  clear hcell hs hcls
  generalize ss[i].val=v at *
  go_wp2_with fail
  go_ret
  exact ⟨ret_int HC.out.symm,hb1⟩
 | false=>
  rw [if_neg (by simp)] at h
  have HC:=Lib.hid h
  clear hs h
  go_wp2_with fail
  go_ret
  exact ⟨ret_int HC.out.symm,hb1⟩
end Go.Proofs.YtijgbonhjcblcaaGreatDoor
namespace Go.Proofs.YtijgbonhjcblcaaGreatDoor
open Go.RowKit
def Laid (w:World):Prop:=
 w.cell? ⟨0,0,none⟩=some (.int .i64 4352)∧w.cell? ⟨0,1,none⟩=some (.int .i64 4370)∧
 w.cell? ⟨0,2,none⟩=some (.int .i64 4449)∧w.cell? ⟨0,3,none⟩=some (.int .i64 4469)∧
 w.cell? ⟨0,4,none⟩=some (.int .i64 4520)∧w.cell? ⟨0,5,none⟩=some (.int .i64 4546)∧
 w.cell? ⟨0,6,none⟩=some (.int .i64 44032)∧w.cell? ⟨0,7,none⟩=some (.int .i64 55203)
theorem Laid.below {w w':World} (h:Laid w) (hb:Below w.heap.size w w'):Laid w':=by
 obtain ⟨h0,h1,h2,h3,h4,h5,h6,h7⟩:=h
 exact ⟨(hb.cell (World.block_lt_of_cell? w _ h0)).trans h0,(hb.cell (World.block_lt_of_cell? w _ h1)).trans h1,(hb.cell (World.block_lt_of_cell? w _ h2)).trans h2,(hb.cell (World.block_lt_of_cell? w _ h3)).trans h3,
  (hb.cell (World.block_lt_of_cell? w _ h4)).trans h4,(hb.cell (World.block_lt_of_cell? w _ h5)).trans h5,(hb.cell (World.block_lt_of_cell? w _ h6)).trans h6,(hb.cell (World.block_lt_of_cell? w _ h7)).trans h7⟩
theorem oidx0 (W:World):(Instr.index 175 (.agg #[.int .i64 4352,.int .i64 4370,.int .i64 4449,.int .i64 4469,.int .i64 4520,.int .i64 4546,.int .i64 44032,.int .i64 55203]) (.int .i64 0)).run Tryz.prog W=.ok (.agg #[.int .i64 4352,.int .i64 4370]) W:=by kernel_rfl
theorem oidx1 (W:World):(Instr.index 175 (.agg #[.int .i64 4352,.int .i64 4370,.int .i64 4449,.int .i64 4469,.int .i64 4520,.int .i64 4546,.int .i64 44032,.int .i64 55203]) (.int .i64 1)).run Tryz.prog W=.ok (.agg #[.int .i64 4449,.int .i64 4469]) W:=by kernel_rfl
theorem oidx2 (W:World):(Instr.index 175 (.agg #[.int .i64 4352,.int .i64 4370,.int .i64 4449,.int .i64 4469,.int .i64 4520,.int .i64 4546,.int .i64 44032,.int .i64 55203]) (.int .i64 2)).run Tryz.prog W=.ok (.agg #[.int .i64 4520,.int .i64 4546]) W:=by kernel_rfl
theorem oidx3 (W:World):(Instr.index 175 (.agg #[.int .i64 4352,.int .i64 4370,.int .i64 4449,.int .i64 4469,.int .i64 4520,.int .i64 4546,.int .i64 44032,.int .i64 55203]) (.int .i64 3)).run Tryz.prog W=.ok (.agg #[.int .i64 44032,.int .i64 55203]) W:=by kernel_rfl
theorem Check_any (A:Option Addr) (n k:Nat) (ss:List Spn) (w:World) (hA:Spans w A ss) (hn:ss.length=n) (hbig:n≤1099511627776) (hL:Laid w) :
  Calls Tryz.prog 90 #[.slice A n k] w (RetInt (chk ss) w):=by
 subst hn
 go_enter Tryz.func90,Tryz.ntmps90
 go_wp2
 go_loopw [14] (fun u wr=>∃i:Nat,i≤ss.length∧u=.int .i64 i∧(∀t,(ht:t < ss.length)→t < i→¬Bad1 ss[t])∧Below w.heap.size w wr) (fun u _=>ss.length - (intOf u).toNat)
 case atStart=>exact ⟨0,Nat.zero_le _,rfl,fun t _ h=>by omega,Below.refl _ _⟩
 case round=>
  obtain ⟨i,hi,rfl,h1,hbel⟩:=hrel
  have H1:=Lib.hid h1;clear h1
  by_cases hlt:i < ss.length
  ·obtain ⟨b,o,rfl,hbl,hcell⟩:=(hA.below hbel).at hlt
   obtain ⟨c1,c2,c3⟩:=hcell i hlt
   clear hcell
   have HB:=Lib.hid (show Bad1 ss[i] ↔ (ss[i].lo < 0∨1114111 < ss[i].hi∨ss[i].hi < ss[i].lo∨ss[i].val < 1∨254 < ss[i].val) from Iff.rfl)
   have HC:=Lib.hid (fun h=>chk_1 (ss:=ss) hlt h)
   have HN:=Lib.hid (fun h=>all_succ (P:=Bad1) hlt H1.out h)
   generalize Bad1 ss[i]=Bd at *
   generalize ss[i].lo=lo at *
   generalize ss[i].hi=hi' at *
   generalize ss[i].val=v at *
   go_wp2
   all_goals first
    | (go_ret
       exact ⟨ret_int (HC.out (HB.out.2 (by omega))).symm,hbel.alloc hbel.size _⟩)
    | (go_roundw
       case rel=>exact ⟨i+1,by omega,by go_num,HN.out (fun h=>by have:=HB.out.1 h;omega),hbel.alloc hbel.size _⟩
       case measure=>simp [intOf];omega)
  ·have H1':=Lib.hid (fun t (ht:t < ss.length)=>H1.out t ht (by omega))
   clear H1
   go_wp2
   go_loopw [5] (fun u wr=>∃i:Nat,i≤ss.length∧u=.int .i64 ((i:Int)+1)∧(∀t,(ht:t+1 < ss.length)→t < i→¬Bad2 ss[t] ss[t+1])∧Below w.heap.size w wr) (fun u _=>ss.length+1 - (intOf u).toNat)
   case atStart=>exact ⟨0,Nat.zero_le _,rfl,fun t _ h=>by omega,hbel⟩
   case round=>
    obtain ⟨j,hj,rfl,h2,hbel2⟩:=hrel
    have H2:=Lib.hid h2;clear h2
    by_cases hlt2:j+1 < ss.length
    ·obtain ⟨b,o,rfl,hbl,hcell⟩:=(hA.below hbel2).at hlt2
     obtain ⟨c1,c2,c3⟩:=hcell j (by omega)
     obtain ⟨c4,c5,c6⟩:=hcell (j+1) hlt2
     clear hcell
     have hmax:=H1'.out j (by omega)
     have hmax2:ss[j].hi≤1114111∧0≤ss[j].hi:=by unfold Bad1 at hmax;omega
     clear hmax
     have HB:=Lib.hid (show Bad2 ss[j] ss[j+1] ↔ (ss[j+1].lo≤ss[j].hi∨(ss[j+1].lo=ss[j].hi+1∧ss[j+1].val=ss[j].val)) from Iff.rfl)
     have HC:=Lib.hid (fun h=>chk_4 (ss:=ss) H1'.out hlt2 h)
     have HN:=Lib.hid (fun h=>pair_succ (P:=Bad2) hlt2 H2.out h)
     generalize Bad2 ss[j] ss[j+1]=Bd at *
     generalize ss[j].lo=lo at *
     generalize ss[j].hi=hi' at *
     generalize ss[j].val=v at *
     generalize ss[j+1].lo=lo2 at *
     generalize ss[j+1].hi=hi2 at *
     generalize ss[j+1].val=v2 at *
     obtain ⟨hm1,hm2⟩:=hmax2
     by_cases t1:lo2≤hi'
     ·have d1:decide (lo2≤hi')=true:=by simpa using t1
      go_wp2
      go_region
      all_goals
       go_wp2
       go_ret
       exact ⟨ret_int (HC.out (HB.out.2 (by omega))).symm,by repeat (first | exact hbel2 | refine Below.drew ?_ | refine Below.alloc ?_ (by have:=hbel2.size;simp;omega) _)⟩
     ·have d1:decide (lo2≤hi')=false:=by simpa using t1
      by_cases t2:lo2=hi'+1
      ·have d2:(lo2==hi'+1)=true:=by simpa using t2
       by_cases t3:v2=v
       ·have d3:(v2==v)=true:=by simpa using t3
        have HT2:=Lib.hid t2;have HT3:=Lib.hid t3;clear t2 t3
        go_wp2
        go_region
        all_goals
         go_wp2
         go_ret
         exact ⟨ret_int (HC.out (HB.out.2 (.inr ⟨HT2.out,HT3.out⟩))).symm,by repeat (first | exact hbel2 | refine Below.drew ?_ | refine Below.alloc ?_ (by have:=hbel2.size;simp;omega) _)⟩
       ·have d3:(v2==v)=false:=by simpa using t3
        have HT2:=Lib.hid t2;have HT3:=Lib.hid t3;clear t2 t3
        go_wp2
        go_region
        all_goals
         go_wp2
         go_roundw
         case rel=>exact ⟨j+1,by omega,by go_num,HN.out (fun h=>by have:=HB.out.1 h;have:=HT3.out;omega),by repeat (first | exact hbel2 | refine Below.drew ?_ | refine Below.alloc ?_ (by have:=hbel2.size;simp;omega) _)⟩
         case measure=>simp [intOf];omega
      ·have d2:(lo2==hi'+1)=false:=by simpa using t2
       have HT2:=Lib.hid t2;clear t2
       go_wp2
       go_region
       all_goals
        go_wp2
        go_roundw
        case rel=>exact ⟨j+1,by omega,by go_num,HN.out (fun h=>by have:=HB.out.1 h;have:=HT2.out;omega),by repeat (first | exact hbel2 | refine Below.drew ?_ | refine Below.alloc ?_ (by have:=hbel2.size;simp;omega) _)⟩
        case measure=>simp [intOf];omega
    ·have H2':=Lib.hid (fun t (ht:t+1 < ss.length)=>H2.out t ht (by omega))
     clear H2
     go_wp2
     go_loopw [81] (fun u wr=>∃i:Nat,i≤ss.length∧u=.int .i64 i∧(∀t,(ht:t < ss.length)→t < i→¬Bad3 ss[t])∧Below w.heap.size w wr) (fun u _=>ss.length - (intOf u).toNat)
     case atStart=>exact ⟨0,Nat.zero_le _,rfl,fun t _ h=>by omega,hbel2⟩
     case round=>
      obtain ⟨i,hi,rfl,h3,hbel3⟩:=hrel
      have H3:=Lib.hid h3;clear h3
      by_cases hlt3:i < ss.length
      ·obtain ⟨b,o,rfl,hbl,hcell⟩:=(hA.below hbel3).at hlt3
       obtain ⟨c1,c2,c3⟩:=hcell i hlt3
       obtain ⟨l0,l1,l2,l3,l4,l5,l6,l7⟩:=hL.below hbel3
       clear hcell
       have hz:0 < wr.heap.size:=World.block_lt_of_cell? wr _ l0
       have HB:=Lib.hid (show Bad3 ss[i] ↔ ((ss[i].lo≤4370∧4352≤ss[i].hi)∨(ss[i].lo≤4469∧4449≤ss[i].hi)∨(ss[i].lo≤4546∧4520≤ss[i].hi)∨(ss[i].lo≤55203∧44032≤ss[i].hi)) from Iff.rfl)
       have HC:=Lib.hid (fun h=>chk_11 (ss:=ss) H1'.out H2'.out hlt3 h)
       have HN:=Lib.hid (fun h=>all_succ (P:=Bad3) hlt3 H3.out h)
       generalize Bad3 ss[i]=Bd at *
       generalize ss[i].lo=lo at *
       generalize ss[i].hi=hi' at *
       generalize ss[i].val=v at *
       obtain ⟨wo,rfl⟩:∃wo:World,wo=wr:=⟨_,rfl⟩
       go_wp2
       have hB9:Below w.heap.size w (wo.alloc (.cells #[.int .i64 lo,.int .i64 hi',.int .i64 v] 128)):=hbel3.alloc hbel3.size _
       go_loopw [86] (fun u wr=>∃j:Int,0≤j∧j≤4∧u=.int .i64 j∧(0 < j→¬(lo≤4370∧4352≤hi'))∧(1 < j→¬(lo≤4469∧4449≤hi'))∧(2 < j→¬(lo≤4546∧4520≤hi'))∧(3 < j→¬(lo≤55203∧44032≤hi'))∧
         Below (wo.heap.size+1) (wo.alloc (.cells #[.int .i64 lo,.int .i64 hi',.int .i64 v] 128)) wr) (fun u _=>4 - (intOf u).toNat)
       case atStart=>exact ⟨0,by omega,by omega,rfl,by omega,by omega,by omega,by omega,Below.refl _ _⟩
       case round=>
        obtain ⟨j,hj0,hj4,rfl,g0,g1,g2,g3,hbw⟩:=hrel
        have a0:wr.cell? ⟨wo.heap.size,0,none⟩=some (.int .i64 lo):=(hbw.cell (p:=⟨wo.heap.size,0,none⟩) (by simp)).trans (by simp [World.cell?_alloc_at])
        have a1:wr.cell? ⟨wo.heap.size,1,none⟩=some (.int .i64 hi'):=(hbw.cell (p:=⟨wo.heap.size,1,none⟩) (by simp)).trans (by simp [World.cell?_alloc_at])
        have hsz:wo.heap.size < wr.heap.size:=by have:=hbw.size;simp at this;omega
        have HBW:=Lib.hid (hB9.trans (hbw.mono (by have:=hbel3.size;omega)))
        have HG:=Lib.hid (And.intro g0 (And.intro g1 (And.intro g2 g3)))
        clear g0 g1 g2 g3
        have x0:=oidx0;have x1:=oidx1;have x2:=oidx2;have x3:=oidx3
        obtain rfl | rfl | rfl | rfl | rfl:j=0∨j=1∨j=2∨j=3∨j=4:=by omega
        all_goals go_wp2
        all_goals first
         | (go_ret
            exact ⟨ret_int (HC.out (HB.out.2 (by omega))).symm,HBW.out.alloc (by have:=hbel3.size;omega) _⟩)
         | (go_roundw
            case rel=>exact ⟨i+1,by omega,by go_num,HN.out (fun h=>by have h1:=HB.out.1 h;have h2:=HG.out;omega),HBW.out⟩
            case measure=>simp [intOf];omega)
         | (go_roundw
            case rel=>exact ⟨1,by omega,by omega,rfl,by have:=HG.out;omega,by have:=HG.out;omega,by have:=HG.out;omega,by have:=HG.out;omega,hbw.alloc (by omega) _⟩
            case measure=>simp [intOf])
         | (go_roundw
            case rel=>exact ⟨2,by omega,by omega,rfl,by have:=HG.out;omega,by have:=HG.out;omega,by have:=HG.out;omega,by have:=HG.out;omega,hbw.alloc (by omega) _⟩
            case measure=>simp [intOf])
         | (go_roundw
            case rel=>exact ⟨3,by omega,by omega,rfl,by have:=HG.out;omega,by have:=HG.out;omega,by have:=HG.out;omega,by have:=HG.out;omega,hbw.alloc (by omega) _⟩
            case measure=>simp [intOf])
         | (go_roundw
            case rel=>exact ⟨4,by omega,by omega,rfl,by have:=HG.out;omega,by have:=HG.out;omega,by have:=HG.out;omega,by have:=HG.out;omega,hbw.alloc (by omega) _⟩
            case measure=>simp [intOf])
      ·have HC:=Lib.hid (chk_0 (ss:=ss) H1'.out H2'.out (fun t ht=>H3.out t ht (by omega)))
       go_wp2
       go_ret
       exact ⟨ret_int HC.out.symm,hbel3⟩
end Go.Proofs.YtijgbonhjcblcaaGreatDoor
namespace Go.Proofs.YtijgbonhjcblcaaGreatDoor
open Go.RowKit
end Go.Proofs.YtijgbonhjcblcaaGreatDoor
namespace Go.Proofs.YtijgbonhjcblcaaGreatDoor
open Go.RowKit
def us (ss:List Spn):List Spn:=if chk ss=0 then ss else []
def clz (ss:List Spn) (c:Int):Int:=cls (us ss) c
theorem us_ok {ss:List Spn} (h:chk ss=0):us ss=ss:=by unfold us;rw [if_pos h]
theorem us_no {ss:List Spn} (h:¬chk ss=0):us ss=[]:=by unfold us;rw [if_neg h]
theorem us_len (ss:List Spn):(us ss).length≤ss.length:=by unfold us;split <;> simp
theorem us_asc (ss:List Spn):Asc (us ss):=by
 by_cases h:chk ss=0
 ·rw [us_ok h];exact asc_of_ok h
 ·rw [us_no h];exact Asc.nil
theorem cls_range {ss:List Spn} (h:∀t,(ht:t < ss.length)→¬Bad1 ss[t]) (c:Int):0≤cls ss c∧cls ss c≤254:=by
 induction ss with
 | nil=>simp [cls]
 | cons s r ih=>
  unfold cls
  split
  ·have:=h 0 (by simp)
   simp only [List.getElem_cons_zero] at this
   unfold Bad1 at this
   omega
  ·exact ih fun t ht=>by
    have:=h (t+1) (by simpa using ht)
    simpa using this
theorem clz_range (ss:List Spn) (c:Int):0≤clz ss c∧clz ss c≤254:=by
 unfold clz
 by_cases h:chk ss=0
 ·rw [us_ok h];exact cls_range (chk_ok h).1 c
 ·rw [us_no h];simp [cls]
def RetSpans (ss:List Spn) (w:World) (e:Ending) (w':World):Prop:=∃A k,e=.returned (.slice A ss.length k)∧Spans w' A ss∧Below w.heap.size w w'
theorem usable_any (A:Option Addr) (n k:Nat) (ss:List Spn) (w:World) (hA:Spans w A ss) (hn:ss.length=n) (hbig:n≤1099511627776) (hL:Laid w) :
  Calls Tryz.prog 119 #[.slice A n k] w (RetSpans (us ss) w):=by
 subst hn
 have C:=Lib.hid (Check_any A ss.length k ss w hA rfl hbig hL)
 clear hL
 by_cases h:chk ss=0
 ·rw [us_ok h]
  rw [h] at C
  clear h
  go_enter Tryz.func119,Tryz.ntmps119
  go_wp2_with fail
  refine C.out.mono ?_
  rintro e w1 ⟨rfl,hb1⟩
  go_wp2_with fail
  go_ret
  exact ⟨A,k,rfl,hA.below hb1,hb1⟩
 ·rw [us_no h]
  have hne:(chk ss != 0)=true:=by simpa using h
  generalize chk ss=z at *
  clear h
  go_enter Tryz.func119,Tryz.ntmps119
  go_wp2_with fail
  refine C.out.mono ?_
  rintro e w1 ⟨rfl,hb1⟩
  go_wp2_with fail
  go_ret
  exact ⟨none,0,rfl,Sl.nil _ _,hb1⟩
theorem Small_any (A:Option Addr) (n k:Nat) (w:World):Calls Tryz.prog 58 #[.slice A n k] w fun e w'=>e=.returned (.bool (decide (n≤16)))∧w=w':=by
 go_enter Tryz.func58,Tryz.ntmps58
 go_wp2_with fail
 go_ret
 refine ⟨ret_bool ?_,rfl⟩
 rw [Bool.eq_iff_iff];simp;omega
end Go.Proofs.YtijgbonhjcblcaaGreatDoor
namespace Go.Proofs.YtijgbonhjcblcaaGreatDoor
def rns (cl:Int→Int):List Int→Nat→Option Nat→List (Nat × Nat)
 | [],_,none=>[]
 | [],i,some s=>[(s,i)]
 | c::r,i,none=>if cl c=0 then rns cl r (i+1) none else rns cl r (i+1) (some i)
 | c::r,i,some s=>if cl c=0 then (s,i)::rns cl r (i+1) none else rns cl r (i+1) (some s)
theorem rns_len (cl:Int→Int) (l:List Int) (i:Nat) (s:Option Nat):(rns cl l i s).length≤l.length+1:=by
 induction l generalizing i s with
 | nil=>cases s <;> simp [rns]
 | cons c r ih=>
  cases s with
  | none=>
   simp only [rns]
   split
   ·have:=ih (i+1) none;simp;omega
   ·have:=ih (i+1) (some i);simp;omega
  | some s=>
   simp only [rns]
   split
   ·have:=ih (i+1) none;simp;omega
   ·have:=ih (i+1) (some s);simp;omega
theorem rns_len0 (cl:Int→Int) (l:List Int) (i:Nat):(rns cl l i none).length≤l.length:=by
 induction l generalizing i with
 | nil=>simp [rns]
 | cons c r ih=>
  simp only [rns]
  split
  ·have:=ih (i+1);simp;omega
  ·have:=rns_len cl r (i+1) (some i);simp;omega
def stv:Option Nat→Int
 | none=>-1
 | some s=>s
theorem rns_step (cl:Int→Int) (l:List Int) (k:Nat) (h:k < l.length) (s:Option Nat) :
  rns cl (l.drop k) k s=match s with
   | none=>if cl l[k]=0 then rns cl (l.drop (k+1)) (k+1) none else rns cl (l.drop (k+1)) (k+1) (some k)
   | some s=>if cl l[k]=0 then (s,k)::rns cl (l.drop (k+1)) (k+1) none else rns cl (l.drop (k+1)) (k+1) (some s):=by
 rw [List.drop_eq_getElem_cons h]
 cases s <;> rfl
theorem rns_end (cl:Int→Int) (l:List Int) (k:Nat) (h:l.length≤k) (s:Option Nat):rns cl (l.drop k) k s=match s with | none=>[] | some s=>[(s,k)]:=by
 rw [List.drop_eq_nil_of_le h]
 cases s <;> rfl
end Go.Proofs.YtijgbonhjcblcaaGreatDoor
namespace Go.Proofs.YtijgbonhjcblcaaGreatDoor
open Go.RowKit
def stB (ms:List Mp):Bool:=(List.range (ms.length - 1)).all fun i=>decide (frmM ms i < frmM ms (i+1))
def kindB (m:Mp):Bool:=decide (m.tag.size=0)&&(decide (¬m.to.length=1)&&decide (¬m.to.length=2))
def datB (ss:List Spn) (m:Mp):Bool:=decide (¬Hg.kind m.frm=0) || (decide (¬m.tag.size=0)&&decide (¬clz ss m.frm=0))
def endB (ms:List Mp):Bool:=(rnds ms.length (toM ms) (fndM ms true) ms.length).all id
def lnds (ms:List Mp) (compat:Bool):Nat→List Int
 | 0=>List.replicate ms.length 0
 | r+1=>(List.range ms.length).foldl (lenStep (toM ms) (fndM ms compat) dlM capE (skipM ms compat)) (lnds ms compat r)
def lensM (ms:List Mp) (compat:Bool):List Int:=lnds ms compat ms.length
def longB (ms:List Mp):Bool:=(List.range ms.length).any fun i=>decide (64 < (lensM ms false).getD i 0) || decide (64 < (lensM ms true).getD i 0)
def nErr (x:Nrm):Int:=
 if ¬chk x.cls=0 then chk x.cls else if ¬mapErr x.dec=0 then mapErr x.dec else if setOk x.exc=false then 11 else if stB x.dec=false then 5
 else if x.dec.any kindB=true then 8 else if x.dec.any (datB x.cls)=true then 11 else if endB x.dec=false then 12 else if longB x.dec=true then 13 else 0
structure Ck3 (x:Nrm):Prop where
 c:chk x.cls=0
 m:mapErr x.dec=0
 s:setOk x.exc=true
structure Ck4 (x:Nrm):Prop extends Ck3 x where
 t:stB x.dec=true
structure Ck5 (x:Nrm):Prop extends Ck4 x where
 k:x.dec.any kindB=false
structure Ck6 (x:Nrm):Prop extends Ck5 x where
 d:x.dec.any (datB x.cls)=false
section
variable {x:Nrm}
theorem nErr_c (h:¬chk x.cls=0):nErr x=chk x.cls:=by unfold nErr;rw [if_pos h]
theorem nErr_m (h:chk x.cls=0) (h2:¬mapErr x.dec=0):nErr x=mapErr x.dec:=by unfold nErr;rw [if_neg (by simpa using h),if_pos h2]
theorem nErr_s (h:chk x.cls=0) (h2:mapErr x.dec=0) (h3:setOk x.exc=false):nErr x=11:=by unfold nErr;rw [if_neg (by simpa using h),if_neg (by simpa using h2),if_pos h3]
theorem Ck3.rest (h:Ck3 x):nErr x=if stB x.dec=false then 5
 else if x.dec.any kindB=true then 8 else if x.dec.any (datB x.cls)=true then 11 else if endB x.dec=false then 12 else if longB x.dec=true then 13 else 0:=by
 unfold nErr;rw [if_neg (by simpa using h.c),if_neg (by simpa using h.m),if_neg (by simp [h.s])]
theorem Ck3.twice (h:Ck3 x) (h2:stB x.dec=false):nErr x=5:=by rw [h.rest,if_pos h2]
theorem Ck4.rest (h:Ck4 x):nErr x=if x.dec.any kindB=true then 8 else if x.dec.any (datB x.cls)=true then 11 else if endB x.dec=false then 12 else if longB x.dec=true then 13 else 0:=by
 rw [h.toCk3.rest,if_neg (by simp [h.t])]
theorem Ck4.kind (h:Ck4 x) (h2:x.dec.any kindB=true):nErr x=8:=by rw [h.rest,if_pos h2]
theorem Ck5.rest (h:Ck5 x):nErr x=if x.dec.any (datB x.cls)=true then 11 else if endB x.dec=false then 12 else if longB x.dec=true then 13 else 0:=by
 rw [h.toCk4.rest,if_neg (by simp [h.k])]
theorem Ck5.data (h:Ck5 x) (h2:x.dec.any (datB x.cls)=true):nErr x=11:=by rw [h.rest,if_pos h2]
theorem Ck6.rest (h:Ck6 x):nErr x=if endB x.dec=false then 12 else if longB x.dec=true then 13 else 0:=by
 rw [h.toCk5.rest,if_neg (by simp [h.d])]
theorem nErr_ck6 (h:nErr x=0):Ck6 x∧endB x.dec=true∧longB x.dec=false:=by
 by_cases h1:chk x.cls=0
 ·by_cases h2:mapErr x.dec=0
  ·cases h3:setOk x.exc with
   | false=>rw [nErr_s h1 h2 h3] at h;omega
   | true=>
    have c3:Ck3 x:=⟨h1,h2,h3⟩
    cases h4:stB x.dec with
    | false=>rw [c3.twice h4] at h;omega
    | true=>
     have c4:Ck4 x:=⟨c3,h4⟩
     cases h5:x.dec.any kindB with
     | true=>rw [c4.kind h5] at h;omega
     | false=>
      have c5:Ck5 x:=⟨c4,h5⟩
      cases h6:x.dec.any (datB x.cls) with
      | true=>rw [c5.data h6] at h;omega
      | false=>
       have c6:Ck6 x:=⟨c5,h6⟩
       rw [c6.rest] at h
       cases h7:endB x.dec with
       | false=>rw [h7] at h;simp at h
       | true=>
        cases h8:longB x.dec with
        | true=>rw [h7,h8] at h;simp at h
        | false=>exact ⟨c6,rfl,rfl⟩
  ·rw [nErr_m h1 h2] at h;exact absurd h h2
 ·rw [nErr_c h1] at h;exact absurd h h1
end
theorem partsErr_ok {ms:List Mp} (h:mapErr ms=0):partsErr ms=0:=by
 unfold mapErr at h
 by_cases hp:partsErr ms=0
 ·exact hp
 ·rw [if_pos hp] at h;exact h
theorem mapErr_asc {ms:List Mp} (h:mapErr ms=0):ascM ms=true:=by
 have hp:=partsErr_ok h
 unfold mapErr at h
 rw [if_neg (by simp [hp])] at h
 cases ha:ascM ms with
 | true=>rfl
 | false=>rw [ha] at h;by_cases hn:(ms.map keyM).Nodup <;> simp [hn] at h
theorem mapErr_codes {ms:List Mp} (h:mapErr ms=0):CodesOk ms:=by
 intro i hi
 have hm:=List.getElem_mem hi
 have hp:=partsErr_ok h
 unfold partsErr at hp
 cases h1:ms.any mpBad with
 | true=>rw [h1] at hp;simp at hp
 | false=>
  cases h2:ms.any (fun m=>decide (64 < m.to.length)) with
  | true=>rw [h1,h2] at hp;simp at hp
  | false=>
   have a:=List.any_eq_false.1 h1 _ hm
   have b:=List.any_eq_false.1 h2 _ hm
   unfold mpBad inR at a
   simp only [Bool.or_eq_true,not_or,Bool.not_eq_true',decide_eq_true_eq,List.any_eq_true,not_exists,not_and] at a b
   obtain ⟨a1,a2⟩:=a
   refine ⟨by simpa using a1,by omega,fun e he=>by simpa using a2 e he⟩
theorem ascM_le:∀{ms:List Mp},ascM ms=true→∀i,(hi:i+1 < ms.length)→ms[i].frm≤ms[i+1].frm
 | [],_,i,hi=>by simp at hi
 | [_],_,i,hi=>by simp at hi
 | a::b::r,h,i,hi=>by
  simp only [ascM,Bool.and_eq_true,decide_eq_true_eq] at h
  cases i with
  | zero=>
   simp only [List.getElem_cons_zero,List.getElem_cons_succ]
   have h1:=h.1
   unfold cmpM at h1
   split at h1
   ·omega
   ·split at h1
    ·omega
    ·omega
  | succ i=>
   have:=ascM_le h.2 i (by simpa using hi)
   simpa using this
theorem stB_of {ms:List Mp} (h:mapErr ms=0) (hne:∀k,(hk:k+1 < ms.length)→¬ms[k+1].frm=ms[k].frm):stB ms=true:=by
 unfold stB
 rw [List.all_eq_true]
 intro i hi
 have hi':=List.mem_range.1 hi
 have h1:i+1 < ms.length:=by omega
 have:=ascM_le (mapErr_asc h) i h1
 have:=hne i h1
 rw [decide_eq_true_eq,frmM_at (by omega),frmM_at h1]
 omega
theorem StF_of {ms:List Mp} (h:stB ms=true):StF ms:=by
 have h1:∀i,(hi:i+1 < ms.length)→ms[i].frm < ms[i+1].frm:=fun i hi=>by
  unfold stB at h
  have:=List.all_eq_true.1 h i (List.mem_range.2 (by omega))
  rwa [decide_eq_true_eq,frmM_at (by omega),frmM_at hi] at this
 have h2:∀d i,(hi:i+d+1 < ms.length)→ms[i].frm < ms[i+d+1].frm:=by
  intro d
  induction d with
  | zero=>intro i hi;exact h1 i hi
  | succ d ih=>
   intro i hi
   have a:=ih i (by omega)
   have b:=h1 (i+d+1) (by omega)
   have:i+(d+1)+1=i+d+1+1:=by omega
   simp only [this]
   omega
 intro i j hi hj hij
 obtain ⟨d,rfl⟩:∃d,j=i+d+1:=⟨j - i - 1,by omega⟩
 exact h2 d i hj
theorem stB_no {ms:List Mp} {k j:Nat} (hk:k < ms.length) (hj:j < ms.length) (hne:k < j) (h:ms[j].frm=ms[k].frm):stB ms=false:=by
 cases e:stB ms with
 | false=>rfl
 | true=>have:=StF_of e k j hk hj hne;omega
theorem NoHg_of {ss:List Spn} {ms:List Mp} (h:ms.any (datB ss)=false):NoHg ms:=fun i hi=>by
 have:=List.any_eq_false.1 h _ (List.getElem_mem hi)
 unfold datB at this
 simp at this
 exact this.1
theorem iter_flat {α:Type} (f:α→Nat→α) (n:Nat) (g:Nat→α) (hg:∀r,g (r+1)=(List.range n).foldl f (g r)) (r:Nat):((List.replicate r (List.range n)).flatten).foldl f (g 0)=g r:=by
 induction r with
 | zero=>rfl
 | succ r ih=>rw [List.replicate_succ',List.flatten_append,List.foldl_append,ih,hg];simp
theorem fndM_sub {ms:List Mp} (hs:StF ms) (compat:Bool):∀e m,fndM ms compat e=some m→fndM ms true e=some m:=fun e m h=>by
 obtain ⟨hi,h1,_⟩:=fndM_at h
 rw [fndM_some hs hi h1,if_pos (.inl rfl)]
theorem lensM_ok {ms:List Mp} (hs:StF ms) (hh:NoHg ms) (he:endB ms=true) (compat:Bool):∀i,(hi:i < ms.length)→Sz (onM ms compat) capE ms[i].frm ((lensM ms compat).getD i 0):=by
 intro i hi
 have hfl:∀j ∈ (List.replicate ms.length (List.range ms.length)).flatten,j < ms.length:=fun j hj=>by
  obtain ⟨l,h1,h2⟩:=List.mem_flatten.1 hj
  rw [List.eq_of_mem_replicate h1] at h2
  exact List.mem_range.1 h2
 have h0:=rounds_sound (maps1 hs hh compat) (fndM_sub hs compat) (List.replicate ms.length (List.range ms.length)).flatten hfl i hi
 have e1:=iter_flat (endStep (toM ms) (fndM ms true)) ms.length (rnds ms.length (toM ms) (fndM ms true)) (fun _=>rfl) ms.length
 have e2:=iter_flat (lenStep (toM ms) (fndM ms compat) dlM capE (skipM ms compat)) ms.length (lnds ms compat) (fun _=>rfl) ms.length
 simp only [rnds,lnds] at e1 e2
 rw [e1,e2] at h0
 have hl:=(rnds_ok ms.length (toM ms) (fndM ms true) ms.length).1
 have:(rnds ms.length (toM ms) (fndM ms true) ms.length).getD i false=true:=by
  unfold endB at he
  have hi':i < (rnds ms.length (toM ms) (fndM ms true) ms.length).length:=by rw [hl];exact hi
  have:=List.all_eq_true.1 he _ (List.getElem_mem hi')
  simpa [List.getD,hi'] using this
 obtain ⟨v,h1,h2⟩:=h0 this
 rw [frmM_at hi] at h1
 unfold lensM
 rw [h2]
 exact h1
theorem endB_of {ms:List Mp} (hs:StF ms) (hh:NoHg ms) (h:∀i,(hi:i < ms.length)→∃v,Sz (onM ms true) capE ms[i].frm v):endB ms=true:=by
 unfold endB
 rw [List.all_eq_true]
 intro b hb
 obtain ⟨i,hi,rfl⟩:=List.getElem_of_mem hb
 have hl:=(rnds_ok ms.length (toM ms) (fndM ms true) ms.length).1
 have hi':i < ms.length:=by rw [hl] at hi;exact hi
 have:=rnds_all (n:=ms.length) (to:=toM ms) (fnd:=fndM ms true) (frm:=frmM ms) (on:=onM ms true) (cap:=capE) (fun i hi=>by rw [frmM_at hi,onM_frm hs hh true hi,if_pos (.inl rfl),toM_at hi]) (maps1 hs hh true).fd (fun i hi=>by rw [frmM_at hi];exact h i hi) i hi'
 simpa [List.getD,hi] using this
theorem Sz_all {ms:List Mp} (hs:StF ms) (hh:NoHg ms) (he:endB ms=true) (x:Int):∃v,Sz (onM ms true) capE x v:=by
 cases hf:fndM ms true x with
 | none=>exact ⟨_,Sz_no hh true hf⟩
 | some i=>
  obtain ⟨hi,h1,_⟩:=fndM_at hf
  subst h1
  exact ⟨_,lensM_ok hs hh he true i hi⟩
theorem MeasOk.cyc {ms:List Mp} {cyc lng:Bool} (h:MeasOk ms cyc lng) (hs:StF ms) (hh:NoHg ms):cyc=!endB ms:=by
 cases hc:cyc with
 | false=>rw [endB_of hs hh (h.ends hc)];rfl
 | true=>
  cases he:endB ms with
  | false=>rfl
  | true=>
   obtain ⟨x,hp⟩:=h.cy hc
   obtain ⟨v,hv⟩:=Sz_all hs hh he x
   exact absurd hp hv.noway
theorem MeasOk.lng {ms:List Mp} {cyc lng:Bool} (h:MeasOk ms cyc lng) (hs:StF ms) (hh:NoHg ms) (he:endB ms=true):lng=longB ms:=by
 have hc:cyc=false:=by rw [h.cyc hs hh,he];rfl
 rw [Bool.eq_iff_iff,h.lg hc]
 unfold longB
 rw [List.any_eq_true]
 constructor
 ·rintro ⟨i,hi,v,h1,h2⟩
  refine ⟨i,List.mem_range.2 hi,?_⟩
  have:=h1.func (lensM_ok hs hh he true i hi)
  rw [←this]
  unfold mxE at h2
  simp [h2]
 ·rintro ⟨i,hi,h1⟩
  have hi':=List.mem_range.1 hi
  have ht:=lensM_ok hs hh he true i hi'
  refine ⟨i,hi',_,ht,?_⟩
  rw [Bool.or_eq_true,decide_eq_true_eq,decide_eq_true_eq] at h1
  rcases h1 with h1 | h1
  ·obtain ⟨u,g1,g2⟩:=Sz_le hs ht
   have:=g1.func (lensM_ok hs hh he false i hi')
   unfold mxE
   omega
  ·exact h1
theorem rns_none (cl:Int→Int):∀(l:List Int) (i:Nat),(∀c ∈ l,cl c=0)→rns cl l i none=[]
 | [],_,_=>rfl
 | c::l,i,h=>by
  have h1:=h c (by simp)
  have:=rns_none cl l (i+1) (fun c hc=>h c (by simp [hc]))
  simp [rns,h1,this]
theorem rns_some (cl:Int→Int):∀(l:List Int) (i s:Nat),rns cl l i (some s)≠[]
 | [],_,_=>by simp [rns]
 | c::l,i,s=>by
  have h1:=rns_some cl l (i+1) s
  simp only [rns]
  split
  ·simp
  ·exact h1
theorem rns_ne (cl:Int→Int):∀(l:List Int) (i:Nat),rns cl l i none=[]→∀c ∈ l,cl c=0
 | [],_,_,_,h=>by cases h
 | c::l,i,hr,d,hd=>by
  simp only [rns] at hr
  split at hr
  ·next h0=>
   rcases List.mem_cons.1 hd with rfl | hd
   ·exact h0
   ·exact rns_ne cl l (i+1) hr d hd
  ·exact absurd hr (rns_some cl l (i+1) i)
def taggedM (ms:List Mp):List Int:=(ms.filter (fun m=>decide (¬m.tag.size=0))).map Mp.frm
theorem datB_of {ss:List Spn} {ms:List Mp} (hh:∀t,(ht:t < ms.length)→Hg.kind ms[t].frm=0) (hr:rns (clz ss) (taggedM ms) 0 none=[]):ms.any (datB ss)=false:=by
 rw [List.any_eq_false]
 intro m hm
 obtain ⟨i,hi,rfl⟩:=List.getElem_of_mem hm
 unfold datB
 by_cases ht:ms[i].tag.size=0
 ·simp [hh i hi,ht]
 ·have:=rns_ne _ _ _ hr ms[i].frm (List.mem_map.2 ⟨ms[i],List.mem_filter.2 ⟨hm,by simpa using ht⟩,rfl⟩)
  simp [hh i hi,this]
theorem datB_yes {ss:List Spn} {ms:List Mp} (hr:¬rns (clz ss) (taggedM ms) 0 none=[]):ms.any (datB ss)=true:=by
 cases h:ms.any (datB ss) with
 | true=>rfl
 | false=>
  refine absurd (rns_none _ _ _ fun c hc=>?_) hr
  obtain ⟨m,hm,rfl⟩:=List.mem_map.1 hc
  obtain ⟨h1,h2⟩:=List.mem_filter.1 hm
  have:=List.any_eq_false.1 h m h1
  unfold datB at this
  simp at this h2
  exact this.2 h2
theorem datB_kind {ss:List Spn} {ms:List Mp} {t:Nat} (ht:t < ms.length) (h:¬Hg.kind ms[t].frm=0):ms.any (datB ss)=true:=List.any_eq_true.2 ⟨_,List.getElem_mem ht,by unfold datB;simp [h]⟩
theorem taggedM_take {ms:List Mp} {i:Nat} (hi:i < ms.length):taggedM (ms.take (i+1))=taggedM (ms.take i)++if ms[i].tag.size=0 then [] else [ms[i].frm]:=by
 unfold taggedM
 rw [List.take_succ_eq_append_getElem hi,List.filter_append,List.map_append]
 congr 1
 by_cases h:ms[i].tag.size=0
 ·rw [if_pos h,List.filter_cons_of_neg (by rw [decide_eq_true_eq];exact fun g=>g h)];rfl
 ·rw [if_neg h,List.filter_cons_of_pos (by rw [decide_eq_true_eq];exact h)];rfl
theorem taggedM_len (ms:List Mp):(taggedM ms).length≤ms.length:=by unfold taggedM;rw [List.length_map];exact List.length_filter_le _ _
end Go.Proofs.YtijgbonhjcblcaaGreatDoor
