/- The library's sort,from the kit's contract to ideal rows. Conditions: the functions lie as the kit's contract asks. -/
import Derived.Test.YtiallonafbejaaaGreatDoorFwI
import Derived.Shelf.Sort.Plain
import Derived.Shelf.Slices.In.SortNone
set_option linter.all false
namespace Go.Id
open Go Go.Sort
variable {P : Program} {w w' : World} {ρ ρ' : Rho} {E : Nat→IV} {σ : Store}
theorem ext_ahead (n k : Nat) : Ext n ρ w ρ (Sort.ahead w k):=⟨Nat.le_refl _,fun _ _ => rfl,fun _ r _ _ h => ⟨r,h,rfl⟩,fun i B d h => .inl ⟨i,d,h⟩,fun _ _ _ h => .inl h,fun _ h => h,fun _ _ h => h,rfl,rfl,rfl,fun _ L h => ⟨L,h⟩,rfl⟩
theorem sim_ahead (hs : Sim E ρ w σ) (k : Nat) : Sim E ρ (Sort.ahead w k) σ :=
 ⟨hs.inj,hs.lt,fun i B d h => let ⟨o,h1,h2⟩:=hs.obj i B d h; ⟨o,h1,h2.mono (ext_ahead 0 k) rfl⟩,hs.dead,hs.fresh,hs.noObj,fun g => (hs.env g).mono (ext_ahead 0 k),hs.nx,hs.xlt⟩
theorem grow_at (w : World) (os : Array Obj) {b : Nat} (h : b < w.heap.size) : (Sort.grow w os).heap[b]? = w.heap[b]?:=by
 show (w.heap ++ os)[b]? = _
 rw [Array.getElem?_append_left h]
theorem heap_lt {b : Nat} {o : Obj} (h : w.heap[b]? = some o) : b < w.heap.size:=(Array.getElem?_eq_some_iff.1 h).1
theorem ext_grow (n : Nat) (os : Array Obj) : Ext n ρ w ρ (Sort.grow w os) :=
 ⟨by show _≤(w.heap ++ os).size; simp,fun b h => grow_at w os h.1,fun b r el fz h => ⟨r,by rw [grow_at w os (heap_lt h)]; exact h,rfl⟩,fun i B d h => .inl ⟨i,d,h⟩,fun _ _ _ h => .inl h,fun _ h => h,fun _ _ h => h,rfl,rfl,rfl,fun l L h => ⟨L,by rw [grow_at w os (heap_lt h)]; exact h⟩,rfl⟩
theorem sim_grow (hs : Sim E ρ w σ) (os : Array Obj) : Sim E ρ (Sort.grow w os) σ :=
 ⟨hs.inj,fun i B d h => Nat.lt_of_lt_of_le (hs.lt i B d h) (ext_grow (ρ:=ρ) 0 os).size,fun i B d h => let ⟨o,h1,h2⟩:=hs.obj i B d h; ⟨o,h1,h2.mono (ext_grow 0 os) (grow_at w os (hs.lt i B d h))⟩,hs.dead,hs.fresh,hs.noObj,fun g => (hs.env g).mono (ext_grow 0 os),hs.nx,fun b h => Nat.lt_of_lt_of_le (hs.xlt b h) (ext_grow (ρ:=ρ) (w:=w) 0 os).size⟩
theorem putRow_set {α : Type} [Inhabited α] (enc : α→Value) (w : World) (B off : Nat) (d : Array α) {rcs : Array Value} {el : TypeId} {fz : Nat × Nat} (h : w.heap[B]? = some (.cells rcs el fz)) :
  Sort.putRow enc w B off d=w.setRow B (Sort.putCells enc off d rcs):=by
 unfold Sort.putRow Sort.mapBlock World.setRow
 congr 1
 apply Array.ext_getElem?
 intro k
 simp only [Array.getElem?_modify]
 by_cases hk : B=k
 ·subst hk
  simp only [if_true,h,Option.map_some,Sort.onCells]
 ·simp [hk]
theorem C_order {α : Type} [Inhabited α] {enc : α→Value} {en : α→IV} {srt : List α→List α} {f : Nat}
  (hv : ∀ (ρ : Rho) (w : World) (x : α),VR ρ w (en x) (enc x)) (hinv : ∀ (ρ : Rho) (w : World) (x : α) (r : Value),VR ρ w (en x) r→r=enc x)
  (hl : ∀ l,(srt l).length=l.length) (h0 : srt []=[])
  (hk : ∀ (blk off cap : Nat) (zs : List α) (w : World),Sort.Holds enc w blk off zs.toArray→blk < w.heap.size→zs.length < 4611686018427387904→Calls P f #[.slice (some ⟨blk,off,none⟩) zs.length cap] w fun e w' =>
   e=.returned (.tuple #[])∧∃ n os,w'=Sort.grow (Sort.putRow enc (Sort.ahead w n) blk off (srt zs).toArray) os)
  (hn : ∀ (p : Option Addr) (cap : Nat) (w : World),Calls P f #[.slice p 0 cap] w fun e w' => e=.returned (.tuple #[])∧w'=w)
  {id : Nat} {zs : List α} (hz : zs.length < 4611686018427387904) (ho : σ.obj id=some (.row (zs.map en))) :
  C P E f [.slice id 0 zs.length 1] σ fun v s => v=.tuple []∧s=σ.put id (.row ((srt zs).map en)):=by
 intro ρ w rargs hs hr
 obtain ⟨hr1,hr2⟩:=hr
 have hv0:=hr2 0 (by simp)
 obtain ⟨al⟩:=rargs
 match al,hr1,hv0 with
 | [r],_,hv0 =>
  have hv0 : VR ρ w (.slice id 0 zs.length 1) r:=hv0
  have empty : ∀ (p : Option Addr) (cap : Nat),r=.slice p 0 cap→zs.length=0→CallsIn Fence.wide 0 P f #[r] w fun e w' => ∃ v r ρ' σ',e=.returned r∧(v=IV.tuple []∧σ'=σ.put id (.row ((srt zs).map en)))∧Sim E ρ' w' σ'∧VR ρ' w' v r∧ExtW σ.next ρ w ρ' w':=by
   intro p cap er hz0
   have hz0 : zs=[]:=List.length_eq_zero_iff.1 hz0
   subst hz0
   rw [er]
   refine callsIn_wide.2 ((hn p cap w).mono ?_)
   rintro e w' ⟨rfl,rfl⟩
   have hput : σ.put id (.row (([] : List α).map en))=σ:=by
    unfold Store.put
    congr 1
    funext i
    by_cases h : i=id
    ·subst h; simpa using ho.symm
    ·simp [h]
   exact ⟨.tuple [],_,ρ,σ,rfl,⟨rfl,by rw [h0]; exact hput.symm⟩,hs,.tuple [] #[] rfl (fun i hi => by simp at hi),ExtW.refl _ _ _⟩
  by_cases hz0 : zs.length=0
  ·rw [hz0] at hv0
   cases hv0 with
   | slice _ _ _ _ B d cap rcs el fz hid hb hsz hle => exact empty _ _ rfl hz0
   | sliceZ _ _ _ B d a hid => exact empty _ _ rfl hz0
   | sliceD _ _ _ _ cap ad hid hle => exact empty _ _ rfl hz0
  ·obtain ⟨m,hm⟩ : ∃ m,m=zs.length:=⟨_,rfl⟩
   rw [← hm] at hv0
   cases hv0 with
   | slice _ _ _ _ B d cap rcs el fz hid hb hsz hle =>
    subst hm
    obtain ⟨o,h1,h2⟩:=hs.obj id B d hid
    rw [ho] at h1
    cases h1
    obtain ⟨rcs',el',hb',hsz',hvs⟩:=h2
    rw [hb] at hb'
    cases hb'
    rw [List.length_map] at hsz' hvs
    have hcell : ∀ j (h : j < zs.length),rcs[d+j]? = some (enc zs[j]):=fun j h => by
     have:=hvs j h
     have e1 : (zs.map en).getD j .undef=en zs[j]:=by simp [List.getD_eq_getElem?_getD,h]
     rw [e1] at this
     have:=hinv _ _ _ _ this
     have hlt : d+j < rcs.size:=by omega
     rw [getD_of_lt _ _ _ hlt] at this
     rw [Array.getElem?_eq_getElem hlt,this]
    have hH : Sort.Holds enc w B (d+0) zs.toArray:=fun j hj => by
     have hj' : j < zs.length:=by simpa using hj
     refine ⟨?_,?_⟩
     ·simp only [World.cell?,hb,Option.isSome_none,Bool.false_eq_true,if_false,Nat.add_zero]
      rw [hcell j hj']
      congr 2
      rw [getElem!_pos _ j hj]; simp
     ·simp [World.frozen?,hb]
    refine callsIn_wide.2 ((hk B (d+0) cap zs w hH (hs.lt id B d hid) hz).mono ?_)
    rintro e w' ⟨rfl,n,os,rfl⟩
    have hba : (Sort.ahead w n).heap[B]? = some (.cells rcs el (0,0)):=hb
    rw [putRow_set enc _ B _ _ hba]
    have hsa:=sim_ahead hs n
    generalize hnew : Sort.putCells enc (d+0) (srt zs).toArray rcs=new
    have hnsz : new.size=rcs.size:=by rw [← hnew]; simp [Sort.putCells]
    have hx1 : ∀ m,Ext m ρ (Sort.ahead w n) ρ ((Sort.ahead w n).setRow B new):=fun m => ext_setRow (n:=m) (new:=new) hid hba hnsz
    have hs1 : Sim E ρ ((Sort.ahead w n).setRow B new) (σ.put id (.row ((srt zs).map en))):=by
     refine sim_setRow hsa hid hba hnsz ⟨new,el,setRow_heap _ B rcs new el (0,0) hba,?_,fun k hk' => ?_⟩
     ·rw [hnsz,List.length_map,hl]; exact hsz'
     ·rw [List.length_map,hl] at hk'
      have hlt : d+k < rcs.size:=by omega
      have hks : k < (srt zs).length:=by rw [hl]; exact hk'
      have e1 : ((srt zs).map en).getD k .undef=en (srt zs)[k]:=by simp [List.getD_eq_getElem?_getD,hks]
      have e2 : new.getD (d+k) undef=enc (srt zs)[k]:=by
       rw [← hnew]
       rw [getD_of_lt _ _ _ (by simpa [Sort.putCells] using hlt)]
       have c1 : d+0≤d+k∧d+k < d+0+(srt zs).toArray.size:=by simp; omega
       simp only [Sort.putCells,Array.getElem_mapIdx,c1,and_self,if_true]
       congr 1
       rw [getElem!_pos _ _ (by simp; omega)]
       simp
      rw [e1,e2]
      exact hv _ _ _
    exact ⟨.tuple [],_,ρ,_,rfl,⟨rfl,rfl⟩,sim_grow hs1 os,.tuple [] #[] rfl (fun i hi => by simp at hi),(((ext_ahead σ.next n).trans (hx1 σ.next) (Nat.le_refl _)).trans (ext_grow σ.next os) (Nat.le_refl _)).weak (Nat.le_refl _)⟩
   | sliceZ => exact absurd hm.symm hz0
   | sliceD _ _ _ _ cap ad hid hle => rw [hs.dead id hid] at ho; cases ho
end Go.Id
