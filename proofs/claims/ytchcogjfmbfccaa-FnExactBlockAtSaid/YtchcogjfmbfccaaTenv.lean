import Derived.Test.YtchcogjfmbfccaaOm31
import Derived.Test.YtchcogjfmbfccaaProg
import Derived.KernelRfl
namespace Go.Proofs.T
open Go.OM
noncomputable def ty : TypeId → Option TI
  | 3 => some ⟨1, 8, .int .i64, [.v (.int .i64 0)]⟩
  | 4 => some ⟨1, 1, .bool, [.v (.bool false)]⟩
  | 5 => some ⟨1, 1, .int .u8, [.v (.int .u8 0)]⟩
  | 6 => some ⟨1, 1, .int .u8, [.v (.int .u8 0)]⟩
  | 9 => some ⟨1, 16, .str, [.v (.string .empty)]⟩
  | 10 => some ⟨1, 16, .str, [.v (.string .empty)]⟩
  | 21 => some ⟨1, 4, .int .i32, [.v (.int .i32 0)]⟩
  | 22 => some ⟨1, 24, .slice 57, [.nl true 3 none]⟩
  | 23 => some ⟨1, 8, .func, [.v .nilFunc]⟩
  | 24 => some ⟨1, 8, .func, [.v .nilFunc]⟩
  | 25 => some ⟨1, 24, .slice 58, [.nl true 3 none]⟩
  | 26 => some ⟨1, 8, .func, [.v .nilFunc]⟩
  | 27 => some ⟨1, 8, .func, [.v .nilFunc]⟩
  | 28 => some ⟨1, 8, .func, [.v .nilFunc]⟩
  | 29 => some ⟨1, 24, .slice 3, [.nl true 1 none]⟩
  | 30 => some ⟨3, 56, .struct [(0, 1), (1, 1), (2, 1)], [.nl true 1 none, .nl true 1 none, .v (.int .i64 0)]⟩
  | 31 => some ⟨3, 56, .struct [(0, 1), (1, 1), (2, 1)], [.nl true 1 none, .nl true 1 none, .v (.int .i64 0)]⟩
  | 32 => some ⟨1, 8, .func, [.v .nilFunc]⟩
  | 33 => some ⟨1, 8, .func, [.v .nilFunc]⟩
  | 34 => some ⟨3, 56, .struct [(0, 1), (1, 1), (2, 1)], [.nl true 1 none, .nl true 1 none, .v (.int .i64 0)]⟩
  | 35 => some ⟨1, 8, .func, [.v .nilFunc]⟩
  | 36 => some ⟨1, 8, .func, [.v .nilFunc]⟩
  | 37 => some ⟨1, 8, .func, [.v .nilFunc]⟩
  | 39 => some ⟨1, 8, .func, [.v .nilFunc]⟩
  | 40 => some ⟨1, 8, .func, [.v .nilFunc]⟩
  | 41 => some ⟨1, 8, .func, [.v .nilFunc]⟩
  | 42 => some ⟨1, 24, .slice 89, [.nl true 4 none]⟩
  | 43 => some ⟨1, 24, .slice 93, [.nl true 5 none]⟩
  | 44 => some ⟨2, 48, .struct [(0, 1), (1, 1)], [.nl true 4 none, .nl true 5 none]⟩
  | 45 => some ⟨2, 48, .struct [(0, 1), (1, 1)], [.nl true 4 none, .nl true 5 none]⟩
  | 46 => some ⟨1, 8, .func, [.v .nilFunc]⟩
  | 47 => some ⟨1, 8, .func, [.v .nilFunc]⟩
  | 48 => some ⟨1, 24, .slice 82, [.nl true 4 none]⟩
  | 49 => some ⟨1, 24, .slice 97, [.nl true 5 none]⟩
  | 50 => some ⟨2, 48, .struct [(0, 1), (1, 1)], [.nl true 4 none, .nl true 5 none]⟩
  | 51 => some ⟨2, 48, .struct [(0, 1), (1, 1)], [.nl true 4 none, .nl true 5 none]⟩
  | 52 => some ⟨1, 8, .func, [.v .nilFunc]⟩
  | 53 => some ⟨1, 8, .func, [.v .nilFunc]⟩
  | 54 => some ⟨1, 8, .func, [.v .nilFunc]⟩
  | 55 => some ⟨1, 8, .func, [.v .nilFunc]⟩
  | 56 => some ⟨3, 40, .struct [(0, 1), (1, 1), (2, 1)], [.v (.int .i64 0), .v (.int .i64 0), .nl true 1 none]⟩
  | 57 => some ⟨3, 40, .struct [(0, 1), (1, 1), (2, 1)], [.v (.int .i64 0), .v (.int .i64 0), .nl true 1 none]⟩
  | 58 => some ⟨3, 40, .struct [(0, 1), (1, 1), (2, 1)], [.v (.int .i64 0), .v (.int .i64 0), .nl true 1 none]⟩
  | 59 => some ⟨1, 8, .func, [.v .nilFunc]⟩
  | 60 => some ⟨1, 8, .func, [.v .nilFunc]⟩
  | 61 => some ⟨1, 8, .func, [.v .nilFunc]⟩
  | 63 => some ⟨1, 8, .func, [.v .nilFunc]⟩
  | 64 => some ⟨1, 8, .func, [.v .nilFunc]⟩
  | 65 => some ⟨1, 8, .func, [.v .nilFunc]⟩
  | 66 => some ⟨1, 8, .func, [.v .nilFunc]⟩
  | 67 => some ⟨1, 8, .func, [.v .nilFunc]⟩
  | 68 => some ⟨1, 8, .func, [.v .nilFunc]⟩
  | 70 => some ⟨1, 8, .func, [.v .nilFunc]⟩
  | 72 => some ⟨1, 8, .func, [.v .nilFunc]⟩
  | 73 => some ⟨1, 8, .ptr, [.v (.pointer none)]⟩
  | 74 => some ⟨3, 32, .struct [(0, 1), (1, 1), (2, 1)], [.v (.string .empty), .v (.int .i64 0), .v (.bool false)]⟩
  | 75 => some ⟨3, 32, .struct [(0, 1), (1, 1), (2, 1)], [.v (.string .empty), .v (.int .i64 0), .v (.bool false)]⟩
  | 76 => some ⟨1, 8, .func, [.v .nilFunc]⟩
  | 77 => some ⟨1, 8, .func, [.v .nilFunc]⟩
  | 78 => some ⟨1, 8, .func, [.v .nilFunc]⟩
  | 79 => some ⟨1, 8, .func, [.v .nilFunc]⟩
  | 80 => some ⟨1, 8, .func, [.v .nilFunc]⟩
  | 81 => some ⟨4, 56, .struct [(0, 1), (1, 1), (2, 1), (3, 1)], [.v (.int .i64 0), .v (.int .i64 0), .v (.string .empty), .nl true 1 none]⟩
  | 82 => some ⟨4, 56, .struct [(0, 1), (1, 1), (2, 1), (3, 1)], [.v (.int .i64 0), .v (.int .i64 0), .v (.string .empty), .nl true 1 none]⟩
  | 83 => some ⟨1, 8, .func, [.v .nilFunc]⟩
  | 84 => some ⟨1, 8, .func, [.v .nilFunc]⟩
  | 85 => some ⟨1, 8, .func, [.v .nilFunc]⟩
  | 86 => some ⟨1, 8, .func, [.v .nilFunc]⟩
  | 87 => some ⟨1, 24, .slice 5, [.nl true 1 none]⟩
  | 88 => some ⟨1, 8, .func, [.v .nilFunc]⟩
  | 89 => some ⟨4, 56, .struct [(0, 1), (1, 1), (2, 1), (3, 1)], [.v (.int .i64 0), .v (.int .i64 0), .v (.string .empty), .nl true 1 none]⟩
  | 90 => some ⟨1, 8, .func, [.v .nilFunc]⟩
  | 91 => some ⟨1, 24, .slice 106, [.nl true 2 none]⟩
  | 92 => some ⟨5, 64, .struct [(0, 1), (1, 1), (2, 1), (3, 1), (4, 1)], [.v (.string .empty), .nl true 2 none, .v (.int .i64 0), .v (.int .i64 0), .v (.int .i64 0)]⟩
  | 93 => some ⟨5, 64, .struct [(0, 1), (1, 1), (2, 1), (3, 1), (4, 1)], [.v (.string .empty), .nl true 2 none, .v (.int .i64 0), .v (.int .i64 0), .v (.int .i64 0)]⟩
  | 94 => some ⟨1, 8, .func, [.v .nilFunc]⟩
  | 95 => some ⟨1, 24, .slice 107, [.nl true 2 none]⟩
  | 96 => some ⟨5, 64, .struct [(0, 1), (1, 1), (2, 1), (3, 1), (4, 1)], [.v (.string .empty), .nl true 2 none, .v (.int .i64 0), .v (.int .i64 0), .v (.int .i64 0)]⟩
  | 97 => some ⟨5, 64, .struct [(0, 1), (1, 1), (2, 1), (3, 1), (4, 1)], [.v (.string .empty), .nl true 2 none, .v (.int .i64 0), .v (.int .i64 0), .v (.int .i64 0)]⟩
  | 98 => some ⟨1, 8, .func, [.v .nilFunc]⟩
  | 99 => some ⟨1, 8, .func, [.v .nilFunc]⟩
  | 100 => some ⟨1, 8, .func, [.v .nilFunc]⟩
  | 101 => some ⟨1, 8, .func, [.v .nilFunc]⟩
  | 102 => some ⟨1, 8, .func, [.v .nilFunc]⟩
  | 103 => some ⟨1, 8, .func, [.v .nilFunc]⟩
  | 104 => some ⟨1, 8, .func, [.v .nilFunc]⟩
  | 105 => some ⟨2, 24, .struct [(0, 1), (1, 1)], [.v (.string .empty), .v (.int .i64 0)]⟩
  | 106 => some ⟨2, 24, .struct [(0, 1), (1, 1)], [.v (.string .empty), .v (.int .i64 0)]⟩
  | 107 => some ⟨2, 24, .struct [(0, 1), (1, 1)], [.v (.string .empty), .v (.int .i64 0)]⟩
  | 108 => some ⟨1, 8, .func, [.v .nilFunc]⟩
  | 109 => some ⟨1, 8, .func, [.v .nilFunc]⟩
  | 110 => some ⟨1, 8, .func, [.v .nilFunc]⟩
  | 111 => some ⟨4, 40, .struct [(0, 1), (1, 1), (2, 1), (3, 1)], [.v (.pointer none), .v (.pointer none), .v (.pointer none), .v (.string .empty)]⟩
  | 112 => some ⟨4, 40, .struct [(0, 1), (1, 1), (2, 1), (3, 1)], [.v (.pointer none), .v (.pointer none), .v (.pointer none), .v (.string .empty)]⟩
  | 116 => some ⟨1, 4, .int .u32, [.v (.int .u32 0)]⟩
  | 117 => some ⟨1, 1, .int .u8, [.v (.int .u8 0)]⟩
  | 118 => some ⟨1, 1, .int .u8, [.v (.int .u8 0)]⟩
  | 119 => some ⟨1, 8, .func, [.v .nilFunc]⟩
  | 120 => some ⟨1, 8, .ptr, [.v (.pointer none)]⟩
  | 121 => some ⟨1, 4, .int .i32, [.v (.int .i32 0)]⟩
  | 122 => some ⟨1, 4, .int .i32, [.v (.int .i32 0)]⟩
  | 123 => some ⟨11, 48, .struct [(0, 1), (1, 1), (2, 1), (3, 1), (4, 1), (5, 1), (6, 1), (7, 1), (8, 1), (9, 1), (10, 1)], [.v (.int .u64 0), .v (.int .u64 0), .v (.int .u32 0), .v (.int .u8 0), .v (.int .u8 0), .v (.int .u8 0), .v (.int .u8 0), .v .nilFunc, .v (.pointer none), .v (.int .i32 0), .v (.int .i32 0)]⟩
  | 124 => some ⟨11, 48, .struct [(0, 1), (1, 1), (2, 1), (3, 1), (4, 1), (5, 1), (6, 1), (7, 1), (8, 1), (9, 1), (10, 1)], [.v (.int .u64 0), .v (.int .u64 0), .v (.int .u32 0), .v (.int .u8 0), .v (.int .u8 0), .v (.int .u8 0), .v (.int .u8 0), .v .nilFunc, .v (.pointer none), .v (.int .i32 0), .v (.int .i32 0)]⟩
  | _ => none
theorem ty_ok (t : TypeId) (ti : TI) (h : ty t = some ti) : TIok Try.prog t ti := by
  unfold ty at h
  split at h
  · cases h; exact ⟨by kernel_rfl, Try.underlying3, rfl⟩
  · cases h; exact ⟨by kernel_rfl, Try.underlying4, rfl⟩
  · cases h; exact ⟨by kernel_rfl, Try.underlying5, rfl⟩
  · cases h; exact ⟨by kernel_rfl, Try.underlying6, rfl⟩
  · cases h; exact ⟨by kernel_rfl, Try.underlying9, rfl⟩
  · cases h; exact ⟨by kernel_rfl, Try.underlying10, rfl⟩
  · cases h; exact ⟨by kernel_rfl, Try.underlying21, rfl⟩
  · cases h; exact ⟨by kernel_rfl, Try.underlying22, rfl⟩
  · cases h; exact ⟨by kernel_rfl, ⟨_, _, _, Try.underlying23⟩, rfl⟩
  · cases h; exact ⟨by kernel_rfl, ⟨_, _, _, Try.underlying24⟩, rfl⟩
  · cases h; exact ⟨by kernel_rfl, Try.underlying25, rfl⟩
  · cases h; exact ⟨by kernel_rfl, ⟨_, _, _, Try.underlying26⟩, rfl⟩
  · cases h; exact ⟨by kernel_rfl, ⟨_, _, _, Try.underlying27⟩, rfl⟩
  · cases h; exact ⟨by kernel_rfl, ⟨_, _, _, Try.underlying28⟩, rfl⟩
  · cases h; exact ⟨by kernel_rfl, Try.underlying29, rfl⟩
  · cases h; exact ⟨by kernel_rfl, (show structOffs Try.prog 30 = some [(0, 1), (1, 1), (2, 1)] by kernel_rfl), rfl⟩
  · cases h; exact ⟨by kernel_rfl, (show structOffs Try.prog 31 = some [(0, 1), (1, 1), (2, 1)] by kernel_rfl), rfl⟩
  · cases h; exact ⟨by kernel_rfl, ⟨_, _, _, Try.underlying32⟩, rfl⟩
  · cases h; exact ⟨by kernel_rfl, ⟨_, _, _, Try.underlying33⟩, rfl⟩
  · cases h; exact ⟨by kernel_rfl, (show structOffs Try.prog 34 = some [(0, 1), (1, 1), (2, 1)] by kernel_rfl), rfl⟩
  · cases h; exact ⟨by kernel_rfl, ⟨_, _, _, Try.underlying35⟩, rfl⟩
  · cases h; exact ⟨by kernel_rfl, ⟨_, _, _, Try.underlying36⟩, rfl⟩
  · cases h; exact ⟨by kernel_rfl, ⟨_, _, _, Try.underlying37⟩, rfl⟩
  · cases h; exact ⟨by kernel_rfl, ⟨_, _, _, Try.underlying39⟩, rfl⟩
  · cases h; exact ⟨by kernel_rfl, ⟨_, _, _, Try.underlying40⟩, rfl⟩
  · cases h; exact ⟨by kernel_rfl, ⟨_, _, _, Try.underlying41⟩, rfl⟩
  · cases h; exact ⟨by kernel_rfl, Try.underlying42, rfl⟩
  · cases h; exact ⟨by kernel_rfl, Try.underlying43, rfl⟩
  · cases h; exact ⟨by kernel_rfl, (show structOffs Try.prog 44 = some [(0, 1), (1, 1)] by kernel_rfl), rfl⟩
  · cases h; exact ⟨by kernel_rfl, (show structOffs Try.prog 45 = some [(0, 1), (1, 1)] by kernel_rfl), rfl⟩
  · cases h; exact ⟨by kernel_rfl, ⟨_, _, _, Try.underlying46⟩, rfl⟩
  · cases h; exact ⟨by kernel_rfl, ⟨_, _, _, Try.underlying47⟩, rfl⟩
  · cases h; exact ⟨by kernel_rfl, Try.underlying48, rfl⟩
  · cases h; exact ⟨by kernel_rfl, Try.underlying49, rfl⟩
  · cases h; exact ⟨by kernel_rfl, (show structOffs Try.prog 50 = some [(0, 1), (1, 1)] by kernel_rfl), rfl⟩
  · cases h; exact ⟨by kernel_rfl, (show structOffs Try.prog 51 = some [(0, 1), (1, 1)] by kernel_rfl), rfl⟩
  · cases h; exact ⟨by kernel_rfl, ⟨_, _, _, Try.underlying52⟩, rfl⟩
  · cases h; exact ⟨by kernel_rfl, ⟨_, _, _, Try.underlying53⟩, rfl⟩
  · cases h; exact ⟨by kernel_rfl, ⟨_, _, _, Try.underlying54⟩, rfl⟩
  · cases h; exact ⟨by kernel_rfl, ⟨_, _, _, Try.underlying55⟩, rfl⟩
  · cases h; exact ⟨by kernel_rfl, (show structOffs Try.prog 56 = some [(0, 1), (1, 1), (2, 1)] by kernel_rfl), rfl⟩
  · cases h; exact ⟨by kernel_rfl, (show structOffs Try.prog 57 = some [(0, 1), (1, 1), (2, 1)] by kernel_rfl), rfl⟩
  · cases h; exact ⟨by kernel_rfl, (show structOffs Try.prog 58 = some [(0, 1), (1, 1), (2, 1)] by kernel_rfl), rfl⟩
  · cases h; exact ⟨by kernel_rfl, ⟨_, _, _, Try.underlying59⟩, rfl⟩
  · cases h; exact ⟨by kernel_rfl, ⟨_, _, _, Try.underlying60⟩, rfl⟩
  · cases h; exact ⟨by kernel_rfl, ⟨_, _, _, Try.underlying61⟩, rfl⟩
  · cases h; exact ⟨by kernel_rfl, ⟨_, _, _, Try.underlying63⟩, rfl⟩
  · cases h; exact ⟨by kernel_rfl, ⟨_, _, _, Try.underlying64⟩, rfl⟩
  · cases h; exact ⟨by kernel_rfl, ⟨_, _, _, Try.underlying65⟩, rfl⟩
  · cases h; exact ⟨by kernel_rfl, ⟨_, _, _, Try.underlying66⟩, rfl⟩
  · cases h; exact ⟨by kernel_rfl, ⟨_, _, _, Try.underlying67⟩, rfl⟩
  · cases h; exact ⟨by kernel_rfl, ⟨_, _, _, Try.underlying68⟩, rfl⟩
  · cases h; exact ⟨by kernel_rfl, ⟨_, _, _, Try.underlying70⟩, rfl⟩
  · cases h; exact ⟨by kernel_rfl, ⟨_, _, _, Try.underlying72⟩, rfl⟩
  · cases h; exact ⟨by kernel_rfl, ⟨_, Try.underlying73⟩, rfl⟩
  · cases h; exact ⟨by kernel_rfl, (show structOffs Try.prog 74 = some [(0, 1), (1, 1), (2, 1)] by kernel_rfl), rfl⟩
  · cases h; exact ⟨by kernel_rfl, (show structOffs Try.prog 75 = some [(0, 1), (1, 1), (2, 1)] by kernel_rfl), rfl⟩
  · cases h; exact ⟨by kernel_rfl, ⟨_, _, _, Try.underlying76⟩, rfl⟩
  · cases h; exact ⟨by kernel_rfl, ⟨_, _, _, Try.underlying77⟩, rfl⟩
  · cases h; exact ⟨by kernel_rfl, ⟨_, _, _, Try.underlying78⟩, rfl⟩
  · cases h; exact ⟨by kernel_rfl, ⟨_, _, _, Try.underlying79⟩, rfl⟩
  · cases h; exact ⟨by kernel_rfl, ⟨_, _, _, Try.underlying80⟩, rfl⟩
  · cases h; exact ⟨by kernel_rfl, (show structOffs Try.prog 81 = some [(0, 1), (1, 1), (2, 1), (3, 1)] by kernel_rfl), rfl⟩
  · cases h; exact ⟨by kernel_rfl, (show structOffs Try.prog 82 = some [(0, 1), (1, 1), (2, 1), (3, 1)] by kernel_rfl), rfl⟩
  · cases h; exact ⟨by kernel_rfl, ⟨_, _, _, Try.underlying83⟩, rfl⟩
  · cases h; exact ⟨by kernel_rfl, ⟨_, _, _, Try.underlying84⟩, rfl⟩
  · cases h; exact ⟨by kernel_rfl, ⟨_, _, _, Try.underlying85⟩, rfl⟩
  · cases h; exact ⟨by kernel_rfl, ⟨_, _, _, Try.underlying86⟩, rfl⟩
  · cases h; exact ⟨by kernel_rfl, Try.underlying87, rfl⟩
  · cases h; exact ⟨by kernel_rfl, ⟨_, _, _, Try.underlying88⟩, rfl⟩
  · cases h; exact ⟨by kernel_rfl, (show structOffs Try.prog 89 = some [(0, 1), (1, 1), (2, 1), (3, 1)] by kernel_rfl), rfl⟩
  · cases h; exact ⟨by kernel_rfl, ⟨_, _, _, Try.underlying90⟩, rfl⟩
  · cases h; exact ⟨by kernel_rfl, Try.underlying91, rfl⟩
  · cases h; exact ⟨by kernel_rfl, (show structOffs Try.prog 92 = some [(0, 1), (1, 1), (2, 1), (3, 1), (4, 1)] by kernel_rfl), rfl⟩
  · cases h; exact ⟨by kernel_rfl, (show structOffs Try.prog 93 = some [(0, 1), (1, 1), (2, 1), (3, 1), (4, 1)] by kernel_rfl), rfl⟩
  · cases h; exact ⟨by kernel_rfl, ⟨_, _, _, Try.underlying94⟩, rfl⟩
  · cases h; exact ⟨by kernel_rfl, Try.underlying95, rfl⟩
  · cases h; exact ⟨by kernel_rfl, (show structOffs Try.prog 96 = some [(0, 1), (1, 1), (2, 1), (3, 1), (4, 1)] by kernel_rfl), rfl⟩
  · cases h; exact ⟨by kernel_rfl, (show structOffs Try.prog 97 = some [(0, 1), (1, 1), (2, 1), (3, 1), (4, 1)] by kernel_rfl), rfl⟩
  · cases h; exact ⟨by kernel_rfl, ⟨_, _, _, Try.underlying98⟩, rfl⟩
  · cases h; exact ⟨by kernel_rfl, ⟨_, _, _, Try.underlying99⟩, rfl⟩
  · cases h; exact ⟨by kernel_rfl, ⟨_, _, _, Try.underlying100⟩, rfl⟩
  · cases h; exact ⟨by kernel_rfl, ⟨_, _, _, Try.underlying101⟩, rfl⟩
  · cases h; exact ⟨by kernel_rfl, ⟨_, _, _, Try.underlying102⟩, rfl⟩
  · cases h; exact ⟨by kernel_rfl, ⟨_, _, _, Try.underlying103⟩, rfl⟩
  · cases h; exact ⟨by kernel_rfl, ⟨_, _, _, Try.underlying104⟩, rfl⟩
  · cases h; exact ⟨by kernel_rfl, (show structOffs Try.prog 105 = some [(0, 1), (1, 1)] by kernel_rfl), rfl⟩
  · cases h; exact ⟨by kernel_rfl, (show structOffs Try.prog 106 = some [(0, 1), (1, 1)] by kernel_rfl), rfl⟩
  · cases h; exact ⟨by kernel_rfl, (show structOffs Try.prog 107 = some [(0, 1), (1, 1)] by kernel_rfl), rfl⟩
  · cases h; exact ⟨by kernel_rfl, ⟨_, _, _, Try.underlying108⟩, rfl⟩
  · cases h; exact ⟨by kernel_rfl, ⟨_, _, _, Try.underlying109⟩, rfl⟩
  · cases h; exact ⟨by kernel_rfl, ⟨_, _, _, Try.underlying110⟩, rfl⟩
  · cases h; exact ⟨by kernel_rfl, (show structOffs Try.prog 111 = some [(0, 1), (1, 1), (2, 1), (3, 1)] by kernel_rfl), rfl⟩
  · cases h; exact ⟨by kernel_rfl, (show structOffs Try.prog 112 = some [(0, 1), (1, 1), (2, 1), (3, 1)] by kernel_rfl), rfl⟩
  · cases h; exact ⟨by kernel_rfl, Try.underlying116, rfl⟩
  · cases h; exact ⟨by kernel_rfl, Try.underlying117, rfl⟩
  · cases h; exact ⟨by kernel_rfl, Try.underlying118, rfl⟩
  · cases h; exact ⟨by kernel_rfl, ⟨_, _, _, Try.underlying119⟩, rfl⟩
  · cases h; exact ⟨by kernel_rfl, ⟨_, Try.underlying120⟩, rfl⟩
  · cases h; exact ⟨by kernel_rfl, Try.underlying121, rfl⟩
  · cases h; exact ⟨by kernel_rfl, Try.underlying122, rfl⟩
  · cases h; exact ⟨by kernel_rfl, (show structOffs Try.prog 123 = some [(0, 1), (1, 1), (2, 1), (3, 1), (4, 1), (5, 1), (6, 1), (7, 1), (8, 1), (9, 1), (10, 1)] by kernel_rfl), rfl⟩
  · cases h; exact ⟨by kernel_rfl, (show structOffs Try.prog 124 = some [(0, 1), (1, 1), (2, 1), (3, 1), (4, 1), (5, 1), (6, 1), (7, 1), (8, 1), (9, 1), (10, 1)] by kernel_rfl), rfl⟩
  · cases h
noncomputable def E : Env := ⟨Try.prog, ty, ty_ok, by kernel_rfl⟩
theorem E_P : E.P = Try.prog := rfl
@[simp] theorem E_ty3 : E.ty 3 = some ⟨1, 8, .int .i64, [.v (.int .i64 0)]⟩ := rfl
@[simp] theorem E_ty4 : E.ty 4 = some ⟨1, 1, .bool, [.v (.bool false)]⟩ := rfl
@[simp] theorem E_ty5 : E.ty 5 = some ⟨1, 1, .int .u8, [.v (.int .u8 0)]⟩ := rfl
@[simp] theorem E_ty6 : E.ty 6 = some ⟨1, 1, .int .u8, [.v (.int .u8 0)]⟩ := rfl
@[simp] theorem E_ty9 : E.ty 9 = some ⟨1, 16, .str, [.v (.string .empty)]⟩ := rfl
@[simp] theorem E_ty10 : E.ty 10 = some ⟨1, 16, .str, [.v (.string .empty)]⟩ := rfl
@[simp] theorem E_ty21 : E.ty 21 = some ⟨1, 4, .int .i32, [.v (.int .i32 0)]⟩ := rfl
@[simp] theorem E_ty22 : E.ty 22 = some ⟨1, 24, .slice 57, [.nl true 3 none]⟩ := rfl
@[simp] theorem E_ty23 : E.ty 23 = some ⟨1, 8, .func, [.v .nilFunc]⟩ := rfl
@[simp] theorem E_ty24 : E.ty 24 = some ⟨1, 8, .func, [.v .nilFunc]⟩ := rfl
@[simp] theorem E_ty25 : E.ty 25 = some ⟨1, 24, .slice 58, [.nl true 3 none]⟩ := rfl
@[simp] theorem E_ty26 : E.ty 26 = some ⟨1, 8, .func, [.v .nilFunc]⟩ := rfl
@[simp] theorem E_ty27 : E.ty 27 = some ⟨1, 8, .func, [.v .nilFunc]⟩ := rfl
@[simp] theorem E_ty28 : E.ty 28 = some ⟨1, 8, .func, [.v .nilFunc]⟩ := rfl
@[simp] theorem E_ty29 : E.ty 29 = some ⟨1, 24, .slice 3, [.nl true 1 none]⟩ := rfl
@[simp] theorem E_ty30 : E.ty 30 = some ⟨3, 56, .struct [(0, 1), (1, 1), (2, 1)], [.nl true 1 none, .nl true 1 none, .v (.int .i64 0)]⟩ := rfl
@[simp] theorem E_ty31 : E.ty 31 = some ⟨3, 56, .struct [(0, 1), (1, 1), (2, 1)], [.nl true 1 none, .nl true 1 none, .v (.int .i64 0)]⟩ := rfl
@[simp] theorem E_ty32 : E.ty 32 = some ⟨1, 8, .func, [.v .nilFunc]⟩ := rfl
@[simp] theorem E_ty33 : E.ty 33 = some ⟨1, 8, .func, [.v .nilFunc]⟩ := rfl
@[simp] theorem E_ty34 : E.ty 34 = some ⟨3, 56, .struct [(0, 1), (1, 1), (2, 1)], [.nl true 1 none, .nl true 1 none, .v (.int .i64 0)]⟩ := rfl
@[simp] theorem E_ty35 : E.ty 35 = some ⟨1, 8, .func, [.v .nilFunc]⟩ := rfl
@[simp] theorem E_ty36 : E.ty 36 = some ⟨1, 8, .func, [.v .nilFunc]⟩ := rfl
@[simp] theorem E_ty37 : E.ty 37 = some ⟨1, 8, .func, [.v .nilFunc]⟩ := rfl
@[simp] theorem E_ty39 : E.ty 39 = some ⟨1, 8, .func, [.v .nilFunc]⟩ := rfl
@[simp] theorem E_ty40 : E.ty 40 = some ⟨1, 8, .func, [.v .nilFunc]⟩ := rfl
@[simp] theorem E_ty41 : E.ty 41 = some ⟨1, 8, .func, [.v .nilFunc]⟩ := rfl
@[simp] theorem E_ty42 : E.ty 42 = some ⟨1, 24, .slice 89, [.nl true 4 none]⟩ := rfl
@[simp] theorem E_ty43 : E.ty 43 = some ⟨1, 24, .slice 93, [.nl true 5 none]⟩ := rfl
@[simp] theorem E_ty44 : E.ty 44 = some ⟨2, 48, .struct [(0, 1), (1, 1)], [.nl true 4 none, .nl true 5 none]⟩ := rfl
@[simp] theorem E_ty45 : E.ty 45 = some ⟨2, 48, .struct [(0, 1), (1, 1)], [.nl true 4 none, .nl true 5 none]⟩ := rfl
@[simp] theorem E_ty46 : E.ty 46 = some ⟨1, 8, .func, [.v .nilFunc]⟩ := rfl
@[simp] theorem E_ty47 : E.ty 47 = some ⟨1, 8, .func, [.v .nilFunc]⟩ := rfl
@[simp] theorem E_ty48 : E.ty 48 = some ⟨1, 24, .slice 82, [.nl true 4 none]⟩ := rfl
@[simp] theorem E_ty49 : E.ty 49 = some ⟨1, 24, .slice 97, [.nl true 5 none]⟩ := rfl
@[simp] theorem E_ty50 : E.ty 50 = some ⟨2, 48, .struct [(0, 1), (1, 1)], [.nl true 4 none, .nl true 5 none]⟩ := rfl
@[simp] theorem E_ty51 : E.ty 51 = some ⟨2, 48, .struct [(0, 1), (1, 1)], [.nl true 4 none, .nl true 5 none]⟩ := rfl
@[simp] theorem E_ty52 : E.ty 52 = some ⟨1, 8, .func, [.v .nilFunc]⟩ := rfl
@[simp] theorem E_ty53 : E.ty 53 = some ⟨1, 8, .func, [.v .nilFunc]⟩ := rfl
@[simp] theorem E_ty54 : E.ty 54 = some ⟨1, 8, .func, [.v .nilFunc]⟩ := rfl
@[simp] theorem E_ty55 : E.ty 55 = some ⟨1, 8, .func, [.v .nilFunc]⟩ := rfl
@[simp] theorem E_ty56 : E.ty 56 = some ⟨3, 40, .struct [(0, 1), (1, 1), (2, 1)], [.v (.int .i64 0), .v (.int .i64 0), .nl true 1 none]⟩ := rfl
@[simp] theorem E_ty57 : E.ty 57 = some ⟨3, 40, .struct [(0, 1), (1, 1), (2, 1)], [.v (.int .i64 0), .v (.int .i64 0), .nl true 1 none]⟩ := rfl
@[simp] theorem E_ty58 : E.ty 58 = some ⟨3, 40, .struct [(0, 1), (1, 1), (2, 1)], [.v (.int .i64 0), .v (.int .i64 0), .nl true 1 none]⟩ := rfl
@[simp] theorem E_ty59 : E.ty 59 = some ⟨1, 8, .func, [.v .nilFunc]⟩ := rfl
@[simp] theorem E_ty60 : E.ty 60 = some ⟨1, 8, .func, [.v .nilFunc]⟩ := rfl
@[simp] theorem E_ty61 : E.ty 61 = some ⟨1, 8, .func, [.v .nilFunc]⟩ := rfl
@[simp] theorem E_ty63 : E.ty 63 = some ⟨1, 8, .func, [.v .nilFunc]⟩ := rfl
@[simp] theorem E_ty64 : E.ty 64 = some ⟨1, 8, .func, [.v .nilFunc]⟩ := rfl
@[simp] theorem E_ty65 : E.ty 65 = some ⟨1, 8, .func, [.v .nilFunc]⟩ := rfl
@[simp] theorem E_ty66 : E.ty 66 = some ⟨1, 8, .func, [.v .nilFunc]⟩ := rfl
@[simp] theorem E_ty67 : E.ty 67 = some ⟨1, 8, .func, [.v .nilFunc]⟩ := rfl
@[simp] theorem E_ty68 : E.ty 68 = some ⟨1, 8, .func, [.v .nilFunc]⟩ := rfl
@[simp] theorem E_ty70 : E.ty 70 = some ⟨1, 8, .func, [.v .nilFunc]⟩ := rfl
@[simp] theorem E_ty72 : E.ty 72 = some ⟨1, 8, .func, [.v .nilFunc]⟩ := rfl
@[simp] theorem E_ty73 : E.ty 73 = some ⟨1, 8, .ptr, [.v (.pointer none)]⟩ := rfl
@[simp] theorem E_ty74 : E.ty 74 = some ⟨3, 32, .struct [(0, 1), (1, 1), (2, 1)], [.v (.string .empty), .v (.int .i64 0), .v (.bool false)]⟩ := rfl
@[simp] theorem E_ty75 : E.ty 75 = some ⟨3, 32, .struct [(0, 1), (1, 1), (2, 1)], [.v (.string .empty), .v (.int .i64 0), .v (.bool false)]⟩ := rfl
@[simp] theorem E_ty76 : E.ty 76 = some ⟨1, 8, .func, [.v .nilFunc]⟩ := rfl
@[simp] theorem E_ty77 : E.ty 77 = some ⟨1, 8, .func, [.v .nilFunc]⟩ := rfl
@[simp] theorem E_ty78 : E.ty 78 = some ⟨1, 8, .func, [.v .nilFunc]⟩ := rfl
@[simp] theorem E_ty79 : E.ty 79 = some ⟨1, 8, .func, [.v .nilFunc]⟩ := rfl
@[simp] theorem E_ty80 : E.ty 80 = some ⟨1, 8, .func, [.v .nilFunc]⟩ := rfl
@[simp] theorem E_ty81 : E.ty 81 = some ⟨4, 56, .struct [(0, 1), (1, 1), (2, 1), (3, 1)], [.v (.int .i64 0), .v (.int .i64 0), .v (.string .empty), .nl true 1 none]⟩ := rfl
@[simp] theorem E_ty82 : E.ty 82 = some ⟨4, 56, .struct [(0, 1), (1, 1), (2, 1), (3, 1)], [.v (.int .i64 0), .v (.int .i64 0), .v (.string .empty), .nl true 1 none]⟩ := rfl
@[simp] theorem E_ty83 : E.ty 83 = some ⟨1, 8, .func, [.v .nilFunc]⟩ := rfl
@[simp] theorem E_ty84 : E.ty 84 = some ⟨1, 8, .func, [.v .nilFunc]⟩ := rfl
@[simp] theorem E_ty85 : E.ty 85 = some ⟨1, 8, .func, [.v .nilFunc]⟩ := rfl
@[simp] theorem E_ty86 : E.ty 86 = some ⟨1, 8, .func, [.v .nilFunc]⟩ := rfl
@[simp] theorem E_ty87 : E.ty 87 = some ⟨1, 24, .slice 5, [.nl true 1 none]⟩ := rfl
@[simp] theorem E_ty88 : E.ty 88 = some ⟨1, 8, .func, [.v .nilFunc]⟩ := rfl
@[simp] theorem E_ty89 : E.ty 89 = some ⟨4, 56, .struct [(0, 1), (1, 1), (2, 1), (3, 1)], [.v (.int .i64 0), .v (.int .i64 0), .v (.string .empty), .nl true 1 none]⟩ := rfl
@[simp] theorem E_ty90 : E.ty 90 = some ⟨1, 8, .func, [.v .nilFunc]⟩ := rfl
@[simp] theorem E_ty91 : E.ty 91 = some ⟨1, 24, .slice 106, [.nl true 2 none]⟩ := rfl
@[simp] theorem E_ty92 : E.ty 92 = some ⟨5, 64, .struct [(0, 1), (1, 1), (2, 1), (3, 1), (4, 1)], [.v (.string .empty), .nl true 2 none, .v (.int .i64 0), .v (.int .i64 0), .v (.int .i64 0)]⟩ := rfl
@[simp] theorem E_ty93 : E.ty 93 = some ⟨5, 64, .struct [(0, 1), (1, 1), (2, 1), (3, 1), (4, 1)], [.v (.string .empty), .nl true 2 none, .v (.int .i64 0), .v (.int .i64 0), .v (.int .i64 0)]⟩ := rfl
@[simp] theorem E_ty94 : E.ty 94 = some ⟨1, 8, .func, [.v .nilFunc]⟩ := rfl
@[simp] theorem E_ty95 : E.ty 95 = some ⟨1, 24, .slice 107, [.nl true 2 none]⟩ := rfl
@[simp] theorem E_ty96 : E.ty 96 = some ⟨5, 64, .struct [(0, 1), (1, 1), (2, 1), (3, 1), (4, 1)], [.v (.string .empty), .nl true 2 none, .v (.int .i64 0), .v (.int .i64 0), .v (.int .i64 0)]⟩ := rfl
@[simp] theorem E_ty97 : E.ty 97 = some ⟨5, 64, .struct [(0, 1), (1, 1), (2, 1), (3, 1), (4, 1)], [.v (.string .empty), .nl true 2 none, .v (.int .i64 0), .v (.int .i64 0), .v (.int .i64 0)]⟩ := rfl
@[simp] theorem E_ty98 : E.ty 98 = some ⟨1, 8, .func, [.v .nilFunc]⟩ := rfl
@[simp] theorem E_ty99 : E.ty 99 = some ⟨1, 8, .func, [.v .nilFunc]⟩ := rfl
@[simp] theorem E_ty100 : E.ty 100 = some ⟨1, 8, .func, [.v .nilFunc]⟩ := rfl
@[simp] theorem E_ty101 : E.ty 101 = some ⟨1, 8, .func, [.v .nilFunc]⟩ := rfl
@[simp] theorem E_ty102 : E.ty 102 = some ⟨1, 8, .func, [.v .nilFunc]⟩ := rfl
@[simp] theorem E_ty103 : E.ty 103 = some ⟨1, 8, .func, [.v .nilFunc]⟩ := rfl
@[simp] theorem E_ty104 : E.ty 104 = some ⟨1, 8, .func, [.v .nilFunc]⟩ := rfl
@[simp] theorem E_ty105 : E.ty 105 = some ⟨2, 24, .struct [(0, 1), (1, 1)], [.v (.string .empty), .v (.int .i64 0)]⟩ := rfl
@[simp] theorem E_ty106 : E.ty 106 = some ⟨2, 24, .struct [(0, 1), (1, 1)], [.v (.string .empty), .v (.int .i64 0)]⟩ := rfl
@[simp] theorem E_ty107 : E.ty 107 = some ⟨2, 24, .struct [(0, 1), (1, 1)], [.v (.string .empty), .v (.int .i64 0)]⟩ := rfl
@[simp] theorem E_ty108 : E.ty 108 = some ⟨1, 8, .func, [.v .nilFunc]⟩ := rfl
@[simp] theorem E_ty109 : E.ty 109 = some ⟨1, 8, .func, [.v .nilFunc]⟩ := rfl
@[simp] theorem E_ty110 : E.ty 110 = some ⟨1, 8, .func, [.v .nilFunc]⟩ := rfl
@[simp] theorem E_ty111 : E.ty 111 = some ⟨4, 40, .struct [(0, 1), (1, 1), (2, 1), (3, 1)], [.v (.pointer none), .v (.pointer none), .v (.pointer none), .v (.string .empty)]⟩ := rfl
@[simp] theorem E_ty112 : E.ty 112 = some ⟨4, 40, .struct [(0, 1), (1, 1), (2, 1), (3, 1)], [.v (.pointer none), .v (.pointer none), .v (.pointer none), .v (.string .empty)]⟩ := rfl
@[simp] theorem E_ty116 : E.ty 116 = some ⟨1, 4, .int .u32, [.v (.int .u32 0)]⟩ := rfl
@[simp] theorem E_ty117 : E.ty 117 = some ⟨1, 1, .int .u8, [.v (.int .u8 0)]⟩ := rfl
@[simp] theorem E_ty118 : E.ty 118 = some ⟨1, 1, .int .u8, [.v (.int .u8 0)]⟩ := rfl
@[simp] theorem E_ty119 : E.ty 119 = some ⟨1, 8, .func, [.v .nilFunc]⟩ := rfl
@[simp] theorem E_ty120 : E.ty 120 = some ⟨1, 8, .ptr, [.v (.pointer none)]⟩ := rfl
@[simp] theorem E_ty121 : E.ty 121 = some ⟨1, 4, .int .i32, [.v (.int .i32 0)]⟩ := rfl
@[simp] theorem E_ty122 : E.ty 122 = some ⟨1, 4, .int .i32, [.v (.int .i32 0)]⟩ := rfl
@[simp] theorem E_ty123 : E.ty 123 = some ⟨11, 48, .struct [(0, 1), (1, 1), (2, 1), (3, 1), (4, 1), (5, 1), (6, 1), (7, 1), (8, 1), (9, 1), (10, 1)], [.v (.int .u64 0), .v (.int .u64 0), .v (.int .u32 0), .v (.int .u8 0), .v (.int .u8 0), .v (.int .u8 0), .v (.int .u8 0), .v .nilFunc, .v (.pointer none), .v (.int .i32 0), .v (.int .i32 0)]⟩ := rfl
@[simp] theorem E_ty124 : E.ty 124 = some ⟨11, 48, .struct [(0, 1), (1, 1), (2, 1), (3, 1), (4, 1), (5, 1), (6, 1), (7, 1), (8, 1), (9, 1), (10, 1)], [.v (.int .u64 0), .v (.int .u64 0), .v (.int .u32 0), .v (.int .u8 0), .v (.int .u8 0), .v (.int .u8 0), .v (.int .u8 0), .v .nilFunc, .v (.pointer none), .v (.int .i32 0), .v (.int .i32 0)]⟩ := rfl
end Go.Proofs.T
