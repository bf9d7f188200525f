
import Derived.Test.YtibehcmomiplnabGreatDoorShV
import Derived.Test.YtibehcmomiplnabGreatDoorProg
import Derived.WalkKit
import Derived.BigCall
import Derived.OwnWalk
import Derived.Defers
set_option linter.unusedSimpArgs false
set_option linter.unusedVariables false
set_option linter.defProp false
set_option maxRecDepth 100000
namespace Go.Sh
open Go.Abs Go.Proofs Go.RowKit
set_option maxHeartbeats 8000000 in
def Fq (n:Nat) (a b:Int) (r:Int×Int) (h:uE n a b=some r):
    oP Tryz.prog 265 [.i .i64 a,.i .i64 b] (.tp [.i .i64 r.1,.i .i64 r.2]):=by
  intro w xs hg hx;simp only [VRs,VR] at hx;obtain ⟨_,_,e1,rfl,_,_,rfl,rfl,rfl⟩:=hx;have:xs=#[.int .i64 a,.int .i64 b]:=by apply mO;simpa using e1
  subst this;clear e1;simp only [uE] at h;have back:∀(m:Int),r=(if (decide (m>a)) != (decide (b>0)) then (0,15) else (m,0))->
      CallsD Tryz.prog 294 #[.pointer (some ⟨w.heap.size+1+1,0,none⟩),.pointer (some ⟨w.heap.size,0,none⟩),.pointer (some ⟨w.heap.size+1,0,none⟩),.pointer (some ⟨w.heap.size+1+1+1,0,none⟩)] .returning
        ((((w.alloc (.cells #[.int .i64 a] 2)).alloc (.cells #[.int .i64 b] 2)).alloc (.cells #[.int .i64 m] 2)).alloc (.cells #[.int .i64 0] 37))
        λe u' w'=>u'=.returning/\(∃y,e=.returned y)/\w'.cell? ⟨w.heap.size+1+1,0,none⟩=some (.int .i64 r.1)/\w'.cell? ⟨w.heap.size+1+1+1,0,none⟩=some (.int .i64 r.2)/\Below w.heap.size w w':=by
    intro m hr;have b4:Below w.heap.size w ((((w.alloc (.cells #[.int .i64 a] 2)).alloc (.cells #[.int .i64 b] 2)).alloc (.cells #[.int .i64 m] 2)).alloc (.cells #[.int .i64 0] 37)):=
      ((((Below.refl _ w).alloc (bi _) _).alloc (by simp) _).alloc (by simp;omega) _).alloc (by simp;omega) _
    by_cases hc:(decide (m>a)) != (decide (b>0))
    · rw [ae hc] at hr
      subst hr;refine callsD_of_wp Tryz.func294 rfl ?_
      go_wp2
      all_goals first
        | (exfalso;simp_all;done)
        | (go_end0
           refine ⟨⟨_,rfl⟩,by simp [go_sem],by simp [go_sem],?_⟩;exact ((((Below.refl _ w).alloc (bi _) _).alloc (by simp) _).alloc (by simp;omega) _).alloc (by simp;omega) _)
    · rw [ab hc] at hr
      subst hr;refine callsD_of_wp Tryz.func294 rfl ?_
      go_wp2
      all_goals first
        | (exfalso;simp_all;done)
        | (go_end0
           refine ⟨⟨_,rfl⟩,by simp [go_sem],by simp [go_sem],?_⟩;exact ((((Below.refl _ w).alloc (bi _) _).alloc (by simp) _).alloc (by simp;omega) _).alloc (by simp;omega) _)
  have ends:∀(t:Array Value) (w':World),t[4]?=some (.pointer (some ⟨w.heap.size+1+1,0,none⟩))->t[5]?=some (.pointer (some ⟨w.heap.size+1+1+1,0,none⟩))->
      w'.cell? ⟨w.heap.size+1+1,0,none⟩=some (.int .i64 r.1)->w'.cell? ⟨w.heap.size+1+1+1,0,none⟩=some (.int .i64 r.2)->
      (results Tryz.f265 t).run Tryz.prog w'=.ok (.tuple #[.int .i64 r.1,.int .i64 r.2]) w':=by
    intro t w' h4 h5 k1 k2;have g4:t.getD 4 undef=.pointer (some ⟨w.heap.size+1+1,0,none⟩):=by simp [um,h4]
    have g5:t.getD 5 undef=.pointer (some ⟨w.heap.size+1+1+1,0,none⟩):=by simp [um,h5]
    have hr:Tryz.f265.results=#[.cell 4 2,.cell 5 37]:=rfl;unfold results;rw [hr];simp [go_sem,h4,h5,k1,k2]
  by_cases hb:b=0
  · subst hb
    go_enter_defers Tryz.func265,Tryz.ntmps265
    go_wp2
    refine leaves_cons (f:=294) (args:=#[.pointer (some ⟨w.heap.size+1+1,0,none⟩),.pointer (some ⟨w.heap.size,0,none⟩),.pointer (some ⟨w.heap.size+1,0,none⟩),.pointer (some ⟨w.heap.size+1+1+1,0,none⟩)]) (by simp) (by simp [go_sem]) ?_;refine (back a ?_).mono ?_
    · simpa using h.symm
    rintro e u' w' ⟨rfl,⟨y,rfl⟩,k1,k2,k3⟩;exact ⟨_,ends _ w' rfl rfl k1 k2,_,rfl,by simp [VR,VRs],Below.fr k3⟩
  · go_enter_defers Tryz.func265,Tryz.ntmps265
    go_wp2
    refine leaves_cons (f:=294) (args:=#[.pointer (some ⟨w.heap.size+1+1,0,none⟩),.pointer (some ⟨w.heap.size,0,none⟩),.pointer (some ⟨w.heap.size+1,0,none⟩),.pointer (some ⟨w.heap.size+1+1+1,0,none⟩)]) (by simp) (by simp [go_sem]) ?_;refine (back (wrap64 (a+b)) ?_).mono ?_
    · have hb':(b==0)=false:=by simpa using hb
      have wr:IntKind.wrap .i64 (a+b)=wrap64 (a+b):=by rw [LE];unfold wrap64;rfl
      simp only [hb',af,wr] at h;cases hq:(decide (wrap64 (a+b)>a) != decide (b>0))<;>rw [hq] at h<;>simpa using h.symm
    rintro e u' w' ⟨rfl,⟨y,rfl⟩,k1,k2,k3⟩;exact ⟨_,ends _ w' rfl rfl k1 k2,_,rfl,by simp [VR,VRs],Below.fr k3⟩
end Go.Sh
